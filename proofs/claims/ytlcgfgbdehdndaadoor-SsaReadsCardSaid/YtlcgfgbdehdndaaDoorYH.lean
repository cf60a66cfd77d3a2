/- Contracts of lrc.Moment and moment, of the document's Moment and time; condition: at most 100,000 bytes. -/
import Derived.Test.YtlcgfgbdehdndaaDoorYG
set_option maxRecDepth 100000
set_option maxHeartbeats 2000000
namespace Go.Proofs.YtlcgfgbdehdndaaDoor
open Go Go.RowKit

def fm5 : List UInt8 := [48, 48, 58, 48, 48]
def fm8 : List UInt8 := [48, 48, 58, 48, 48, 46, 48, 48]
def fm9 : List UInt8 := [48, 48, 58, 48, 48, 46, 48, 48, 48]
def momB (s : List UInt8) : Bool := likeB s fm5 || likeB s fm8 || likeB s fm9
/-- How many bytes the time in brackets has that stands ahead; 0: there is none. -/
def timeN (s : List UInt8) : Nat := if s.take 1 = [91] ∧ 0 ≤ Lib.indexByte (s.take 11) 93 ∧ momB ((s.take (Lib.indexByte (s.take 11) 93).toNat).drop 1) = true then (Lib.indexByte (s.take 11) 93).toNat + 1 else 0
theorem idx_lt (c : UInt8) : ∀ l : List UInt8, Lib.indexByte l c < l.length
  | [] => by simp [Lib.indexByte]
  | b :: l => by
    have := idx_lt c l
    have h2 := Lib.indexByte_ge l c
    unfold Lib.indexByte
    rw [List.length_cons]
    split
    · omega
    · split <;> omega
theorem idx_get (c : UInt8) : ∀ l : List UInt8, 0 ≤ Lib.indexByte l c → l[(Lib.indexByte l c).toNat]? = some c ∧ ∀ j : Nat, (j : Int) < Lib.indexByte l c → l[j]? ≠ some c
  | [], h => by simp [Lib.indexByte] at h
  | b :: l, h => by
    have ih := idx_get c l
    have h2 := Lib.indexByte_ge l c
    unfold Lib.indexByte at h ⊢
    by_cases hb : b = c
    · subst hb
      simp
      intro j hj
      omega
    · have e : (b == c) = false := by simpa using hb
      rw [e] at h ⊢
      simp only [Bool.false_eq_true, if_false, beq_iff_eq] at h ⊢
      by_cases h1 : Lib.indexByte l c = -1
      · rw [if_pos h1] at h; omega
      · rw [if_neg h1]
        obtain ⟨a1, a2⟩ := ih (by omega)
        rw [show (Lib.indexByte l c + 1).toNat = (Lib.indexByte l c).toNat + 1 by omega]
        refine ⟨by simpa using a1, fun j hj => ?_⟩
        cases j with
        | zero => simpa using hb
        | succ j => simpa using a2 j (by omega)
theorem idx_none (c : UInt8) : ∀ l : List UInt8, Lib.indexByte l c = -1 → c ∉ l
  | [], _ => by simp
  | b :: l, h => by
    have h2 := Lib.indexByte_ge l c
    unfold Lib.indexByte at h
    by_cases hb : b = c
    · subst hb; simp at h
    · have e : (b == c) = false := by simpa using hb
      rw [e] at h
      simp only [Bool.false_eq_true, if_false, beq_iff_eq] at h
      by_cases h1 : Lib.indexByte l c = -1
      · have := idx_none c l h1
        simp only [List.mem_cons, not_or]
        exact ⟨fun e => hb e.symm, this⟩
      · rw [if_neg h1] at h; omega
end Go.Proofs.YtlcgfgbdehdndaaDoor
