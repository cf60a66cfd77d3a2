/- How far a loop over a text's signs has come. Plain lists. -/
import Derived.Test.YtpnjandlpbjddabDoorMathU
import Derived.Test.YtpnjandlpbjddabDoorShelf
import Derived.Lib.IndexBytes
import Derived.Shelf.Unicode.DecodeSlow
namespace Go.Proofs.YtpnjandlpbjddabDoor
open Go Go.RowKit

/-- The bytes s begin with the signs ps; behind them stands r. -/
def Pre (s : ByteArray) (ps : List Int) (r : List UInt8) : Prop := s.data.toList = textL ps ++ r ∧ ∀ p ∈ ps, scalarB p = true
/-- k of the signs ps are behind us: i bytes. -/
def Run (ps : List Int) (k i : Nat) : Prop := k ≤ ps.length ∧ i = (textL (ps.take k)).length
theorem Good.pre {s : ByteArray} {ps : List Int} (h : Good s ps) : Pre s ps [] := ⟨by simpa using h.1, h.2⟩
theorem BadAt.pre {s : ByteArray} {n : Nat} (h : BadAt s n) : ∃ ps r, Pre s ps r ∧ n = (textL ps).length ∧ r ≠ [] ∧ errD (decL r) := by
  obtain ⟨ps, r, h1, h2, h3, h4, h5⟩ := h
  exact ⟨ps, r, ⟨h1, h2⟩, h3, h4, h5⟩
theorem Run.zero (ps : List Int) : Run ps 0 0 := ⟨Nat.zero_le _, rfl⟩
theorem getD_mem {ps : List Int} {k : Nat} (h : k < ps.length) : ps.getD k 0 ∈ ps := by
  rw [List.getD_eq_getElem?_getD, List.getElem?_eq_getElem h]
  exact List.getElem_mem h
theorem drop_getD {ps : List Int} {k : Nat} (h : k < ps.length) : ps.drop k = ps.getD k 0 :: ps.drop (k + 1) := by
  rw [List.drop_eq_getElem_cons h, List.getD_eq_getElem?_getD, List.getElem?_eq_getElem h]; rfl
theorem take_getD {ps : List Int} {k : Nat} (h : k < ps.length) : ps.take (k + 1) = ps.take k ++ [ps.getD k 0] := by
  rw [List.take_succ_eq_append_getElem h, List.getD_eq_getElem?_getD, List.getElem?_eq_getElem h]; rfl
theorem Run.drop {s : ByteArray} {ps : List Int} {r : List UInt8} {k i : Nat} (hp : Pre s ps r) (h : Run ps k i) : s.data.toList.drop i = textL (ps.drop k) ++ r := by
  have e : textL ps = textL (ps.take k) ++ textL (ps.drop k) := by rw [← textL_append, List.take_append_drop]
  rw [hp.1, e, List.append_assoc, h.2, List.drop_left]
theorem Run.next {ps : List Int} {k i : Nat} (h : Run ps k i) (hk : k < ps.length) : Run ps (k + 1) (i + (Lib.encodeRune (ps.getD k 0)).length) :=
  ⟨hk, by rw [take_getD hk, textL_append, List.length_append, ← h.2, textL_cons, textL_nil, List.append_nil]⟩
theorem Run.head {s : ByteArray} {ps : List Int} {r : List UInt8} {k i : Nat} (hp : Pre s ps r) (h : Run ps k i) (hk : k < ps.length) :
    ∃ t, s.data.toList.drop i = Lib.encodeRune (ps.getD k 0) ++ t ∧ scalarB (ps.getD k 0) = true ∧ i < s.size ∧ i + (Lib.encodeRune (ps.getD k 0)).length ≤ s.size := by
  have hd := h.drop hp
  rw [drop_getD hk, textL_cons, List.append_assoc] at hd
  have hl := congrArg List.length hd
  rw [List.length_drop, List.length_append] at hl
  have h1 := (enc_len (ps.getD k 0)).1
  have hs : s.data.toList.length = s.size := by simp
  rw [hs] at hl
  exact ⟨_, hd, hp.2 _ (getD_mem hk), by omega, by omega⟩
theorem Run.end_ {s : ByteArray} {ps : List Int} {r : List UInt8} {i : Nat} (hp : Pre s ps r) (h : Run ps ps.length i) : i = (textL ps).length ∧ s.data.toList.drop i = r ∧ i + r.length = s.size := by
  have hd := h.drop hp
  rw [List.drop_length, textL_nil, List.nil_append] at hd
  have h2 := h.2
  rw [List.take_length] at h2
  refine ⟨h2, hd, ?_⟩
  have hl := congrArg List.length hp.1
  rw [List.length_append] at hl
  have hs : s.data.toList.length = s.size := by simp
  omega
theorem Run.le {s : ByteArray} {ps : List Int} {r : List UInt8} {k i : Nat} (hp : Pre s ps r) (h : Run ps k i) : k ≤ i ∧ i ≤ s.size ∧ k ≤ ps.length := by
  have h1 := (len_textL (ps.take k)).1
  rw [List.length_take, ← h.2] at h1
  have h0 := h.1
  have hl := congrArg List.length hp.1
  have e : textL ps = textL (ps.take k) ++ textL (ps.drop k) := by rw [← textL_append, List.take_append_drop]
  rw [e, List.length_append, List.length_append, ← h.2] at hl
  have hs : s.data.toList.length = s.size := by simp
  omega
theorem Run.uniq {ps : List Int} {k i j : Nat} (h : Run ps k i) (h' : Run ps k j) : i = j := by rw [h.2, h'.2]

theorem extract_all (s : ByteArray) (i : Nat) : (s.extract i s.size).data.toList = s.data.toList.drop i := Lib.extract_to_end s i
theorem dec_ext (s : ByteArray) (i : Nat) (h : i < s.size) : Lib.decodeGo (s.extract i s.size) = decL (s.data.toList.drop i) := by
  have e := extract_all s i
  have hz : (s.extract i s.size).size = s.size - i := by
    have h2 := congrArg List.length e
    have h3 : (s.extract i s.size).data.toList.length = (s.extract i s.size).size := by simp
    have h4 : s.data.toList.length = s.size := by simp
    rw [h3, List.length_drop, h4] at h2
    exact h2
  unfold Lib.decodeGo
  rw [if_neg (by omega), decode_drop, e, List.drop_zero]

/-- The sign p, of n bytes, stands at place i of s: the k-th of ps. -/
def Step (s : ByteArray) (ps : List Int) (k i : Nat) (p : Int) (n : Nat) : Prop :=
  (∃ t, s.data.toList.drop i = Lib.encodeRune p ++ t) ∧ n = (Lib.encodeRune p).length ∧ p = ps.getD k 0 ∧ scalarB p = true
theorem Run.step {s : ByteArray} {ps : List Int} {r : List UInt8} {k i : Nat} (hp : Pre s ps r) (h : Run ps k i) (hk : k < ps.length) :
    ∃ (p : Int) (n : Nat), Step s ps k i p n ∧ Run ps (k + 1) (i + n) ∧ 1 ≤ n ∧ n ≤ 4 ∧ i + n ≤ s.size ∧ 0 ≤ p ∧ p ≤ 1114111 ∧ ((p == 65533) = false ∨ (p = 65533 ∧ 2 ≤ n)) := by
  obtain ⟨t, hd, hs, hi, hi2⟩ := h.head hp hk
  have h4 := scalarB_iff.1 hs
  have h5 := enc_len (ps.getD k 0)
  refine ⟨_, _, ⟨⟨t, hd⟩, rfl, rfl, hs⟩, h.next hk, h5.1, h5.2, hi2, h4.1, h4.2.1, ?_⟩
  by_cases h6 : ps.getD k 0 = 65533
  · right
    rw [h6]
    exact ⟨rfl, by decide⟩
  · left
    simpa using h6
theorem Step.snoc {s : ByteArray} {ps : List Int} {k i n : Nat} {p : Int} (h : Step s ps k i p n) (hk : k < ps.length) : ps.take (k + 1) = ps.take k ++ [p] := by
  rw [take_getD hk, h.2.2.1]
end Go.Proofs.YtpnjandlpbjddabDoor
