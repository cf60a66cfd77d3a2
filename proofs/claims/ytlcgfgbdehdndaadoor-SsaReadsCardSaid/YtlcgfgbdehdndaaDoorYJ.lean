/- Contract of the document's time (chapter 26); condition: at most 100,000 bytes. -/
import Derived.Test.YtlcgfgbdehdndaaDoorYI
set_option maxRecDepth 100000
set_option maxHeartbeats 2000000
namespace Go.Proofs.YtlcgfgbdehdndaaDoor
open Go Go.RowKit

theorem like_free (c : UInt8) (hc : digitB c = false) : ∀ s f : List UInt8, likeB s f = true → c ∉ f → c ∉ s
  | [], _, _, _ => by simp
  | a :: s, [], h, _ => by simp [likeB] at h
  | a :: s, b :: f, h, hn => by
    simp only [likeB, Bool.and_eq_true] at h
    simp only [List.mem_cons, not_or] at hn ⊢
    refine ⟨?_, like_free c hc s f h.2 hn.2⟩
    intro e
    have h1 := h.1
    split at h1
    · rw [← e, hc] at h1; cases h1
    · have : a = b := by simpa using h1
      exact hn.1 (e.trans this)
theorem mom_facts {m : List UInt8} (h : momB m = true) : (m.length = 5 ∨ m.length = 8 ∨ m.length = 9) ∧ 93 ∉ m := by
  unfold momB at h
  simp only [Bool.or_eq_true] at h
  rcases h with (h | h) | h
  · exact ⟨.inl (like_len _ _ h), like_free 93 (by decide) _ _ h (by decide)⟩
  · exact ⟨.inr (.inl (like_len _ _ h)), like_free 93 (by decide) _ _ h (by decide)⟩
  · exact ⟨.inr (.inr (like_len _ _ h)), like_free 93 (by decide) _ _ h (by decide)⟩
theorem idx_uniq (c : UInt8) : ∀ (l : List UInt8) (n : Nat), l[n]? = some c → (∀ j, j < n → l[j]? ≠ some c) → Lib.indexByte l c = n
  | [], n, h, _ => by simp at h
  | b :: l, 0, h, _ => by
    simp at h
    subst h
    simp [Lib.indexByte]
  | b :: l, n + 1, h, hn => by
    have h0 : b ≠ c := by simpa using hn 0 (by omega)
    have ih := idx_uniq c l n (by simpa using h) (fun j hj => by simpa using hn (j + 1) (by omega))
    have e : (b == c) = false := by simpa using h0
    unfold Lib.indexByte
    rw [e, ih]
    simp only [Bool.false_eq_true, if_false, beq_iff_eq]
    rw [if_neg (by omega)]
    omega
theorem timeN_at (l : List UInt8) (n : Nat) (h7 : 7 ≤ n) (h11 : n ≤ 11) : timeN l = n ↔ (l.take 1 = [91] ∧ l[n - 1]? = some 93 ∧ momB ((l.take (n - 1)).drop 1) = true) := by
  rw [timeN_eq]
  constructor
  · intro h
    split at h
    · rename_i hc
      obtain ⟨a, b, c⟩ := hc
      have hi := (idx_get 93 (l.take 11) b).1
      have hp := tmI_pos a b
      have e : (tmI l).toNat = n - 1 := by omega
      have e2 : (Lib.indexByte (l.take 11) 93).toNat = n - 1 := e
      rw [e2, List.getElem?_take_of_lt (by omega)] at hi
      rw [e] at c
      exact ⟨a, hi, c⟩
    · omega
  · rintro ⟨a, b, c⟩
    obtain ⟨hl, hno⟩ := mom_facts c
    have hi : tmI l = ((n - 1 : Nat) : Int) := by
      refine idx_uniq 93 (l.take 11) (n - 1) (by rw [List.getElem?_take_of_lt (by omega)]; exact b) (fun j hj e => ?_)
      rw [List.getElem?_take_of_lt (by omega)] at e
      cases j with
      | zero =>
        cases l with
        | nil => simp at a
        | cons x l => simp at a e; rw [a] at e; exact absurd e (by decide)
      | succ j =>
        apply hno
        have : ((l.take (n - 1)).drop 1)[j]? = some 93 := by
          rw [List.getElem?_drop, List.getElem?_take_of_lt (by omega), Nat.add_comm]
          exact e
        exact List.mem_of_getElem? this
    have e : (tmI l).toNat = n - 1 := by omega
    rw [e, if_pos ⟨a, by omega, c⟩]
    omega
theorem timeN_rng (l : List UInt8) : timeN l = 0 ∨ (7 ≤ timeN l ∧ timeN l ≤ 11 ∧ timeN l ≤ l.length) := by
  by_cases h : l.take 1 = [91] ∧ 0 ≤ tmI l ∧ momB ((l.take (tmI l).toNat).drop 1) = true
  · right
    rw [timeN_eq, if_pos h]
    obtain ⟨a, b, c⟩ := h
    have hp := tmI_pos a b
    have hm := (mom_facts c).1
    rw [List.length_drop, List.length_take] at hm
    omega
  · left
    rw [timeN_eq, if_neg h]
def TmRel (l : List UInt8) (w0 : World) (i : Value) (wr : World) : Prop := ∃ n : Nat, 7 ≤ n ∧ n ≤ 12 ∧ i = .int .i64 n ∧ (∀ j, 7 ≤ j → j < n → timeN l ≠ j) ∧ Below w0.heap.size w0 wr
theorem get_eq (s : ByteArray) (i : Nat) (h : i < s.size) (c : UInt8) : s.data.toList[i]? = some c ↔ s[i] = c := by
  rw [List.getElem?_eq_getElem (by rw [len_data]; exact h)]
  constructor
  · intro e; exact Option.some.inj e
  · intro e; exact congrArg some e
theorem take1_eq (s : ByteArray) (h : 0 < s.size) (c : UInt8) : s.data.toList.take 1 = [c] ↔ s[0] = c := by
  rw [← get_eq s 0 h c]
  have hl := len_data s
  generalize s.data.toList = l at *
  cases l with
  | nil => simp at hl; omega
  | cons b l => simp
theorem eq_int {a : UInt8} {c : UInt8} (h : a = c) : ((a.toNat : Int) == (c.toNat : Int)) = true := by rw [h]; simp
theorem ne_int2 {a : UInt8} {c : UInt8} (h : a ≠ c) : ((a.toNat : Int) == (c.toNat : Int)) = false := by
  rw [beq_eq_false_iff_ne]
  have := u8_ne h
  omega
end Go.Proofs.YtlcgfgbdehdndaaDoor
