/- Contracts of lrc.moment, of the document's time; condition: at most 100,000 bytes. -/
import Derived.Test.YtlcgfgbdehdndaaDoorYH
set_option maxRecDepth 100000
set_option maxHeartbeats 2000000
namespace Go.Proofs.YtlcgfgbdehdndaaDoor
open Go Go.RowKit

theorem pre1 (c : UInt8) (l : List UInt8) : Lib.hasPrefix l [c] = true ↔ l.take 1 = [c] := by
  unfold Lib.hasPrefix
  cases l with
  | nil => simp [List.isPrefixOf]
  | cons b l =>
    simp only [List.isPrefixOf, Bool.and_true, beq_iff_eq, List.take_succ_cons, List.take_zero, List.cons.injEq, and_true]
    exact eq_comm
theorem pre1_no {c : UInt8} {l : List UInt8} (h : Lib.hasPrefix l [c] = false) : ¬ l.take 1 = [c] := fun e => by
  rw [(pre1 c l).2 e] at h
  cases h
theorem ext_data (s : ByteArray) (a b : Nat) : (s.extract a b).data.toList = (s.data.toList.take b).drop a := by
  conv => lhs; rw [B_of s, B_ext, B_data]
def tmI (l : List UInt8) : Int := Lib.indexByte (l.take 11) 93
theorem tmI_pos {l : List UInt8} (hp : l.take 1 = [91]) (h : 0 ≤ tmI l) : 1 ≤ tmI l ∧ tmI l < 11 ∧ tmI l < l.length := by
  have h1 := idx_get 93 (l.take 11) h
  have h2 := idx_lt 93 (l.take 11)
  rw [List.length_take] at h2
  have h3 : tmI l ≠ 0 := by
    intro e
    have e2 : Lib.indexByte (l.take 11) 93 = 0 := e
    rw [e2] at h1
    have := h1.1
    cases l with
    | nil => simp at hp
    | cons b l => simp at hp this; rw [hp] at this; exact absurd this (by decide)
  unfold tmI at *
  omega
theorem timeN_eq (l : List UInt8) : timeN l = if l.take 1 = [91] ∧ 0 ≤ tmI l ∧ momB ((l.take (tmI l).toNat).drop 1) = true then (tmI l).toNat + 1 else 0 := rfl
theorem strI (s : ByteArray) (m : Nat) (hm : s.data.toList.take m = s.data.toList.take 11) (w : World) :
    Calls Tryd.prog 74 #[.string (s.extract 0 m), .string ⟨#[93]⟩] w fun e w' => e = .returned (.int .i64 (tmI s.data.toList)) ∧ w = w' := by
  refine (Tryd.strings_Index_one (s.extract 0 m) 93 w).mono ?_
  rintro e w' ⟨rfl, rfl⟩
  refine ⟨?_, rfl⟩
  rw [ext_data, List.drop_zero, hm]
  rfl
end Go.Proofs.YtlcgfgbdehdndaaDoor
