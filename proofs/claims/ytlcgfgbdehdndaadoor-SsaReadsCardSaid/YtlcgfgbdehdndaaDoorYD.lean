/- Lines and pieces as lists; contract of line.next; condition: less than 2^45 bytes. -/
import Derived.Test.YtlcgfgbdehdndaaDoorYC
set_option maxRecDepth 100000
set_option maxHeartbeats 1000000
namespace Go.Proofs.YtlcgfgbdehdndaaDoor
open Go Go.RowKit

def nEol (c : UInt8) : Bool := c != 10 && c != 13
/-- The text of the line with which a text begins, and its end. -/
def lnT (r : List UInt8) : List UInt8 := r.takeWhile nEol
def eolOf : List UInt8 → List UInt8
  | 13 :: 10 :: _ => [13, 10]
  | c :: _ => [c]
  | [] => []
def lnE (r : List UInt8) : List UInt8 := eolOf (r.drop (lnT r).length)
theorem eol_pre : ∀ r : List UInt8, ∃ t, r = eolOf r ++ t
  | [] => ⟨[], rfl⟩
  | [c] => ⟨[], by simp only [eolOf]; rfl⟩
  | c :: d :: l => by
    by_cases h : c = 13 ∧ d = 10
    · obtain ⟨rfl, rfl⟩ := h
      exact ⟨l, rfl⟩
    · refine ⟨d :: l, ?_⟩
      have : eolOf (c :: d :: l) = [c] := by
        unfold eolOf
        split
        · rename_i e; simp only [List.cons.injEq] at e; exact absurd ⟨e.1, e.2.1⟩ h
        · rename_i e; simp only [List.cons.injEq] at e; rw [e.1]
        · rename_i e; cases e
      rw [this]; rfl
theorem tw_pre (p : UInt8 → Bool) (r : List UInt8) : r = r.takeWhile p ++ r.drop (r.takeWhile p).length := by
  conv => lhs; rw [← List.takeWhile_append_dropWhile (p := p) (l := r)]
  congr 1
  have := List.takeWhile_append_dropWhile (p := p) (l := r)
  conv => rhs; arg 2; rw [← this]
  rw [List.drop_left]
theorem ln_pre (r : List UInt8) : ∃ t, r = lnT r ++ (lnE r ++ t) := by
  obtain ⟨t, ht⟩ := eol_pre (r.drop (lnT r).length)
  exact ⟨t, by conv => lhs; rw [tw_pre nEol r]
               show lnT r ++ r.drop (lnT r).length = _
               rw [show lnE r = eolOf (r.drop (lnT r).length) from rfl, ← ht]⟩
theorem tw_in (p : UInt8 → Bool) : ∀ (r : List UInt8) (k : Nat) (h : k < r.length), k < (r.takeWhile p).length → p r[k] = true
  | a :: r, k, h, hk => by
    by_cases ha : p a = true
    · rw [List.takeWhile_cons_of_pos ha] at hk
      cases k with
      | zero => exact ha
      | succ k => exact tw_in p r k (by simpa using h) (by simpa using hk)
    · rw [List.takeWhile_cons_of_neg ha] at hk
      simp at hk
theorem tw_out (p : UInt8 → Bool) : ∀ (r : List UInt8) (h : (r.takeWhile p).length < r.length), p r[(r.takeWhile p).length] = false
  | [], h => by simp at h
  | a :: r, h => by
    by_cases ha : p a = true
    · have e : ((a :: r).takeWhile p).length = (r.takeWhile p).length + 1 := by rw [List.takeWhile_cons_of_pos ha]; rfl
      have := tw_out p r (by rw [e] at h; simpa using h)
      simp only [e, List.getElem_cons_succ]
      exact this
    · have e : ((a :: r).takeWhile p).length = 0 := by rw [List.takeWhile_cons_of_neg ha]; rfl
      simp only [e, List.getElem_cons_zero]
      simpa using ha
theorem tw_le (p : UInt8 → Bool) (r : List UInt8) : (r.takeWhile p).length ≤ r.length := by
  have := congrArg List.length (tw_pre p r)
  rw [List.length_append] at this
  omega
theorem drop_get (s : ByteArray) (i k : Nat) (h : k < (s.data.toList.drop i).length) (h2 : i + k < s.size) : (s.data.toList.drop i)[k] = s[i + k] := by
  simp only [List.getElem_drop]
  rfl
theorem ext_take (s : ByteArray) (i n : Nat) : s.extract i (i + n) = B ((s.data.toList.drop i).take n) := by
  conv => lhs; rw [B_of s, B_ext2]
  rw [Nat.add_sub_cancel_left]
/-- What next reads at a place. -/
theorem nx_facts (s : ByteArray) (i n : Nat) (hi : i ≤ s.size) (hn : n = (lnT (s.data.toList.drop i)).length) :
    i + n ≤ s.size ∧ (∀ k (_ : k < n) (h : i + k < s.size), s[i + k] ≠ 10 ∧ s[i + k] ≠ 13) ∧ (∀ h : i + n < s.size, s[i + n] = 10 ∨ s[i + n] = 13) ∧ s.extract i (i + n) = B (lnT (s.data.toList.drop i)) := by
  have hlen : (s.data.toList.drop i).length = s.size - i := by rw [List.length_drop, len_data]
  have hle := tw_le nEol (s.data.toList.drop i)
  have hpre := tw_pre nEol (s.data.toList.drop i)
  refine ⟨by unfold lnT at hn; omega, ?_, ?_, ?_⟩
  · intro k hk h
    have := tw_in nEol (s.data.toList.drop i) k (by omega) (by unfold lnT at hn; omega)
    rw [drop_get s i k (by omega) h] at this
    simp only [nEol, Bool.and_eq_true, bne_iff_ne] at this
    exact this
  · intro h
    have := tw_out nEol (s.data.toList.drop i) (by unfold lnT at hn; omega)
    have e : (s.data.toList.drop i)[((s.data.toList.drop i).takeWhile nEol).length]'(by unfold lnT at hn; omega) = s[i + n] := by
      rw [drop_get s i _ (by unfold lnT at hn; omega) (by unfold lnT at hn; omega)]
      congr 1
      unfold lnT at hn; omega
    rw [e] at this
    simp only [nEol, Bool.and_eq_false_iff, bne_eq_false_iff_eq] at this
    exact this
  · rw [ext_take, hn]
    congr 1
    unfold lnT
    conv => lhs; arg 2; rw [hpre]
    rw [List.take_left]
theorem eol_facts (s : ByteArray) (i n : Nat) (hn : n = (lnT (s.data.toList.drop i)).length) :
    (i + n = s.size → lnE (s.data.toList.drop i) = []) ∧ (∀ h : i + n < s.size, s[i + n] = 10 → lnE (s.data.toList.drop i) = [10]) ∧
    (∀ (h : i + n < s.size) (h2 : i + n + 1 < s.size), s[i + n] = 13 → s[i + n + 1] = 10 → lnE (s.data.toList.drop i) = [13, 10]) ∧
    (∀ (h : i + n < s.size), s[i + n] = 13 → (∀ h2 : i + n + 1 < s.size, s[i + n + 1] ≠ 10) → lnE (s.data.toList.drop i) = [13]) := by
  have hE : lnE (s.data.toList.drop i) = eolOf (s.data.toList.drop (i + n)) := by
    unfold lnE
    rw [List.drop_drop, ← hn]
  rw [hE]
  refine ⟨?_, ?_, ?_, ?_⟩
  · intro e
    rw [List.drop_of_length_le (by rw [len_data]; omega)]
    rfl
  · intro h e
    rw [drop_at s _ h, e]
    rfl
  · intro h h2 e e2
    rw [drop_at s _ h, drop_at s _ h2, e, e2]
    rfl
  · intro h e hno
    by_cases h2 : i + n + 1 < s.size
    · have hne := hno h2
      rw [drop_at s _ h, drop_at s _ h2, e]
      generalize s[i + n + 1] = d at *
      unfold eolOf
      split
      · rename_i e3; simp only [List.cons.injEq] at e3; exact absurd e3.2.1 hne
      · rename_i e3; simp only [List.cons.injEq] at e3; rw [e3.1]
      · rename_i e3; cases e3
    · rw [drop_at s _ h, List.drop_of_length_le (by rw [len_data]; omega), e]
      rfl
theorem lnE_ext (s : ByteArray) (i n m : Nat) (hn : n = (lnT (s.data.toList.drop i)).length) (hm : m = (lnE (s.data.toList.drop i)).length) : s.extract (i + n) (i + n + m) = B (lnE (s.data.toList.drop i)) := by
  obtain ⟨t, ht⟩ := ln_pre (s.data.toList.drop i)
  rw [ext_take, ← List.drop_drop]
  congr 1
  generalize s.data.toList.drop i = r at *
  rw [hn, hm]
  generalize lnE r = e at *
  generalize lnT r = x at *
  subst ht
  rw [List.drop_left, List.take_left]
def NxRel (i n : Nat) (e : Value) : Prop := ∃ k : Nat, k ≤ n ∧ e = .int .i64 ((i + k : Nat) : Int)
def NxPost (s : ByteArray) (i : Nat) (w0 : World) (e : Ending) (w' : World) : Prop := e = .returned (.agg #[.string (B (lnT (s.data.toList.drop i))), .string (B (lnE (s.data.toList.drop i))), .int .i64 i]) ∧ Below w0.heap.size w0 w'
end Go.Proofs.YtlcgfgbdehdndaaDoor
