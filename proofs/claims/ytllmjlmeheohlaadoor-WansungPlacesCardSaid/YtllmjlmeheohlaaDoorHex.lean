/- Lists of signs in base sixteen, four digits and a blank each: a sign's place by the first place of its digits. No program in sight; no condition. -/
import Derived.Lib.Index
import Derived.Lib.IndexBytes
set_option maxRecDepth 100000
namespace Go.Proofs.YtllmjlmeheohlaaDoor
open Go

def hexD (n : Int) : UInt8 := if n < 10 then (48 + n).toNat.toUInt8 else (55 + n).toNat.toUInt8
def cellL (p : Int) : List UInt8 := [hexD (p / 4096), hexD (p / 256 % 16), hexD (p / 16 % 16), hexD (p % 16), 32]
def hexL (ps : List Int) : List UInt8 := ps.flatMap cellL
def SmallP (ps : List Int) : Prop := ∀ p ∈ ps, 0 ≤ p ∧ p ≤ 65535
def digitsL : List UInt8 := [48, 49, 50, 51, 52, 53, 54, 55, 56, 57, 65, 66, 67, 68, 69, 70]

theorem small16 {n : Int} (h0 : 0 ≤ n) (h1 : n < 16) : n = 0 ∨ n = 1 ∨ n = 2 ∨ n = 3 ∨ n = 4 ∨ n = 5 ∨ n = 6 ∨ n = 7 ∨ n = 8 ∨ n = 9 ∨ n = 10 ∨ n = 11 ∨ n = 12 ∨ n = 13 ∨ n = 14 ∨ n = 15 := by omega
theorem hexD_index {n : Int} (h0 : 0 ≤ n) (h1 : n < 16) : Lib.indexByte digitsL (hexD n) = n := by
  rcases small16 h0 h1 with rfl | rfl | rfl | rfl | rfl | rfl | rfl | rfl | rfl | rfl | rfl | rfl | rfl | rfl | rfl | rfl <;> decide
theorem hexD_get {n : Int} (h0 : 0 ≤ n) (h1 : n < 16) : digitsL.getD n.toNat 0 = hexD n := by
  rcases small16 h0 h1 with rfl | rfl | rfl | rfl | rfl | rfl | rfl | rfl | rfl | rfl | rfl | rfl | rfl | rfl | rfl | rfl <;> decide
theorem hexD_blank {n : Int} (h0 : 0 ≤ n) (h1 : n < 16) : hexD n ≠ 32 := by
  rcases small16 h0 h1 with rfl | rfl | rfl | rfl | rfl | rfl | rfl | rfl | rfl | rfl | rfl | rfl | rfl | rfl | rfl | rfl <;> decide
theorem hexD_inj {n m : Int} (h0 : 0 ≤ n) (h1 : n < 16) (g0 : 0 ≤ m) (g1 : m < 16) (h : hexD n = hexD m) : n = m := by
  rw [← hexD_index h0 h1, h, hexD_index g0 g1]

theorem hexL_cons (p : Int) (ps : List Int) : hexL (p :: ps) = cellL p ++ hexL ps := rfl
theorem hexL_len (ps : List Int) : (hexL ps).length = 5 * ps.length := by
  induction ps with
  | nil => rfl
  | cons p ps ih => rw [hexL_cons, List.length_append, ih, List.length_cons]; simp [cellL]; omega
theorem hexL_at (ps : List Int) (k j : Nat) (hk : k < ps.length) (hj : j < 5) : (hexL ps)[5 * k + j]? = (cellL (ps.getD k 0))[j]? := by
  induction ps generalizing k with
  | nil => simp at hk
  | cons p ps ih =>
    rw [hexL_cons]
    cases k with
    | zero => rw [List.getElem?_append_left (by simp [cellL]; omega)]; simp
    | succ k =>
      rw [List.getElem?_append_right (by simp [cellL]; omega)]
      have e : 5 * (k + 1) + j - (cellL p).length = 5 * k + j := by simp [cellL]; omega
      rw [e, ih k (by simpa using hk)]
      simp

/-- The number of a sign in a list; -1: it isn't there. -/
def fnd : List Int → Int → Int
  | [], _ => -1
  | q :: l, p => if q = p then 0 else if fnd l p = -1 then -1 else fnd l p + 1
theorem fnd_ge (l : List Int) (p : Int) : -1 ≤ fnd l p := by
  induction l with
  | nil => simp [fnd]
  | cons q l ih => unfold fnd; split; · decide
                   split <;> omega
theorem fnd_lt (l : List Int) (p : Int) : fnd l p < l.length := by
  induction l with
  | nil => simp [fnd]
  | cons q l ih => unfold fnd; rw [List.length_cons]; split; · omega
                   split <;> omega
theorem fnd_none {l : List Int} {p : Int} : fnd l p = -1 ↔ p ∉ l := by
  induction l with
  | nil => simp [fnd]
  | cons q l ih =>
    have := fnd_ge l p
    unfold fnd
    by_cases h : q = p
    · subst h; simp
    · have h' : p ≠ q := fun e => h e.symm
      rw [if_neg h]
      by_cases h2 : fnd l p = -1
      · rw [if_pos h2]; simp [h', ih.1 h2]
      · rw [if_neg h2]
        have : p ∈ l := Classical.byContradiction fun hn => h2 (ih.2 hn)
        simp [this]; omega
theorem fnd_get {l : List Int} {p : Int} (h : 0 ≤ fnd l p) : l.getD (fnd l p).toNat 0 = p := by
  induction l with
  | nil => simp [fnd] at h
  | cons q l ih =>
    have hg := fnd_ge l p
    unfold fnd at h ⊢
    by_cases e : q = p
    · subst e; simp
    · rw [if_neg e] at h ⊢
      by_cases h2 : fnd l p = -1
      · rw [if_pos h2] at h; omega
      · rw [if_neg h2] at h ⊢
        have e2 : (fnd l p + 1).toNat = (fnd l p).toNat + 1 := by omega
        rw [e2, List.getD_cons_succ]
        exact ih (by omega)

theorem cell_digits {p : Int} (h : 0 ≤ p ∧ p ≤ 65535) : (0 ≤ p / 4096 ∧ p / 4096 < 16) ∧ (0 ≤ p / 256 % 16 ∧ p / 256 % 16 < 16) ∧ (0 ≤ p / 16 % 16 ∧ p / 16 % 16 < 16) ∧ (0 ≤ p % 16 ∧ p % 16 < 16) := by omega
theorem cell_inj {p q : Int} (hp : 0 ≤ p ∧ p ≤ 65535) (hq : 0 ≤ q ∧ q ≤ 65535) (h : cellL p = cellL q) : p = q := by
  obtain ⟨a1, a2, a3, a4⟩ := cell_digits hp
  obtain ⟨b1, b2, b3, b4⟩ := cell_digits hq
  simp only [cellL, List.cons.injEq, and_true] at h
  obtain ⟨e1, e2, e3, e4⟩ := h
  have f1 := hexD_inj a1.1 a1.2 b1.1 b1.2 e1
  have f2 := hexD_inj a2.1 a2.2 b2.1 b2.2 e2
  have f3 := hexD_inj a3.1 a3.2 b3.1 b3.2 e3
  have f4 := hexD_inj a4.1 a4.2 b4.1 b4.2 e4
  omega

theorem index_no {b : UInt8} {l sub : List UInt8} (h : sub.isPrefixOf (b :: l) = false) : Lib.index (b :: l) sub = if Lib.index l sub = -1 then -1 else Lib.index l sub + 1 := by
  rw [Lib.index, h]
  simp
theorem index_hex (ps : List Int) (p : Int) (hs : SmallP ps) (hp : 0 ≤ p ∧ p ≤ 65535) : Lib.index (hexL ps) (cellL p) = if fnd ps p = -1 then -1 else 5 * fnd ps p := by
  induction ps with
  | nil => rfl
  | cons q ps ih =>
    have hq := hs q (by simp)
    have ih := ih (fun x hx => hs x (by simp [hx]))
    obtain ⟨a1, a2, a3, a4⟩ := cell_digits hp
    have n1 := hexD_blank a1.1 a1.2
    have n2 := hexD_blank a2.1 a2.2
    have n3 := hexD_blank a3.1 a3.2
    have n4 := hexD_blank a4.1 a4.2
    have hg := fnd_ge ps p
    rw [hexL_cons]
    by_cases e : q = p
    · subst e
      simp only [fnd, if_true]
      unfold Lib.index cellL
      simp [List.isPrefixOf]
    · have hne : ¬ cellL p = cellL q := fun h => e (cell_inj hp hq h).symm
      have h0 : (cellL p).isPrefixOf (cellL q ++ hexL ps) = false := by
        rw [Bool.eq_false_iff]
        intro h
        have := List.isPrefixOf_iff_prefix.1 h
        exact hne (List.IsPrefix.eq_of_length (List.prefix_of_prefix_length_le this (List.prefix_append _ _) (by simp [cellL])) (by simp [cellL]))
      have hr : Lib.index (cellL q ++ hexL ps) (cellL p) = if Lib.index (hexL ps) (cellL p) = -1 then -1 else Lib.index (hexL ps) (cellL p) + 5 := by
        generalize hI : Lib.index (hexL ps) (cellL p) = I
        have hI1 : -1 ≤ I := by rw [← hI]; exact Lib.index_ge _ _
        have e5 : ∀ x y z u : UInt8, Lib.index (x :: y :: z :: u :: 32 :: hexL ps) (cellL p) = if Lib.index (hexL ps) (cellL p) = -1 then (if (cellL p).isPrefixOf (x :: y :: z :: u :: 32 :: hexL ps) then 0 else -1) else (if (cellL p).isPrefixOf (x :: y :: z :: u :: 32 :: hexL ps) then 0 else Lib.index (hexL ps) (cellL p) + 5) := by
          intro x y z u
          have i4 : Lib.index (32 :: hexL ps) (cellL p) = if Lib.index (hexL ps) (cellL p) = -1 then -1 else Lib.index (hexL ps) (cellL p) + 1 := index_no (by simp [cellL, List.isPrefixOf, beq_eq_false_iff_ne.2 n1])
          have i3 : Lib.index (u :: 32 :: hexL ps) (cellL p) = if Lib.index (32 :: hexL ps) (cellL p) = -1 then -1 else Lib.index (32 :: hexL ps) (cellL p) + 1 := index_no (by simp [cellL, List.isPrefixOf, beq_eq_false_iff_ne.2 n2])
          have i2 : Lib.index (z :: u :: 32 :: hexL ps) (cellL p) = if Lib.index (u :: 32 :: hexL ps) (cellL p) = -1 then -1 else Lib.index (u :: 32 :: hexL ps) (cellL p) + 1 := index_no (by simp [cellL, List.isPrefixOf, beq_eq_false_iff_ne.2 n3])
          have i1 : Lib.index (y :: z :: u :: 32 :: hexL ps) (cellL p) = if Lib.index (z :: u :: 32 :: hexL ps) (cellL p) = -1 then -1 else Lib.index (z :: u :: 32 :: hexL ps) (cellL p) + 1 := index_no (by simp [cellL, List.isPrefixOf, beq_eq_false_iff_ne.2 n4])
          have i0 : Lib.index (x :: y :: z :: u :: 32 :: hexL ps) (cellL p) = if (cellL p).isPrefixOf (x :: y :: z :: u :: 32 :: hexL ps) then 0 else if Lib.index (y :: z :: u :: 32 :: hexL ps) (cellL p) == -1 then -1 else Lib.index (y :: z :: u :: 32 :: hexL ps) (cellL p) + 1 := by rw [Lib.index]
          rw [i0, i1, i2, i3, i4, hI]
          by_cases h1 : I = -1
          · simp [h1]
          · have k1 : ¬ I + 1 = -1 := by omega
            have k2 : ¬ I + 1 + 1 = -1 := by omega
            have k3 : ¬ I + 1 + 1 + 1 = -1 := by omega
            have k4 : ¬ I + 1 + 1 + 1 + 1 = -1 := by omega
            simp only [h1, k1, k2, k3, k4, if_false, beq_iff_eq]
            split
            · rfl
            · omega
        have := e5 (hexD (q / 4096)) (hexD (q / 256 % 16)) (hexD (q / 16 % 16)) (hexD (q % 16))
        have h0' : (cellL p).isPrefixOf (hexD (q / 4096) :: hexD (q / 256 % 16) :: hexD (q / 16 % 16) :: hexD (q % 16) :: 32 :: hexL ps) = false := h0
        rw [h0', hI] at this
        exact this
      rw [hr, ih]
      simp only [fnd, if_neg e]
      by_cases h2 : fnd ps p = -1
      · simp [h2]
      · have k : ¬ 5 * fnd ps p = -1 := by omega
        have k' : ¬ fnd ps p + 1 = -1 := by omega
        simp only [h2, k, k', if_false]
        omega
end Go.Proofs.YtllmjlmeheohlaaDoor
