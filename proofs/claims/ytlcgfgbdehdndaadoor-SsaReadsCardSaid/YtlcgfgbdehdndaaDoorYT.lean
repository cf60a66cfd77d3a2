/- Contracts of lrc.Declared, the document's Declared and law23.Fault; condition: at most 1,000,000 bytes. -/
import Derived.Test.YtlcgfgbdehdndaaDoorYS
set_option maxRecDepth 100000
set_option maxHeartbeats 4000000
namespace Go.Proofs.YtlcgfgbdehdndaaDoor
open Go Go.RowKit

def pCs : List UInt8 := [91, 99, 115, 58]
def csN (T : List UInt8) : Option (List UInt8) := if Lib.hasPrefix T pCs = true ∧ Lib.hasSuffix (T.drop 4) [93] = true then some ((T.drop 4).take (T.length - 5)) else none
def declL : List Ln → List UInt8
  | [] => []
  | x :: l => (csN x.1).getD (declL l)
theorem csN_eq (T : List UInt8) : csN T = if 5 ≤ T.length ∧ T.take 4 = pCs ∧ T[T.length - 1]? = some 93 then some ((T.drop 4).take (T.length - 5)) else none := by
  unfold csN
  rw [← Lib.hasPrefix_of_take, ← Lib.hasSuffix_of_drop]
  have hi : ((decide (pCs.length ≤ T.length) && (T.take pCs.length == pCs)) = true ∧ (decide ([93].length ≤ (T.drop 4).length) && ((T.drop 4).drop ((T.drop 4).length - [93].length) == ([93] : List UInt8))) = true) ↔ (5 ≤ T.length ∧ T.take 4 = pCs ∧ T[T.length - 1]? = some 93) := by
    simp only [Bool.and_eq_true, decide_eq_true_eq, beq_iff_eq, List.length_drop, List.drop_drop, List.length_singleton]
    rw [show pCs.length = 4 from rfl]
    constructor
    · rintro ⟨⟨h1, h2⟩, h3, h4⟩
      refine ⟨by omega, h2, ?_⟩
      rw [show 4 + (T.length - 4 - 1) = T.length - 1 by omega] at h4
      have := congrArg (fun l => l[0]?) h4
      simpa using this
    · rintro ⟨h1, h2, h3⟩
      refine ⟨⟨by omega, h2⟩, by omega, ?_⟩
      rw [show 4 + (T.length - 4 - 1) = T.length - 1 by omega, List.drop_eq_getElem_cons (by omega)]
      rw [List.getElem?_eq_getElem (by omega)] at h3
      injection h3 with h3
      rw [h3, List.drop_of_length_le (by omega)]
  split
  · rename_i h; rw [if_pos (hi.1 h)]
  · rename_i h; rw [if_neg (fun h2 => h (hi.2 h2))]
def DcRel (L : List Ln) (w0 : World) (i : Value) (wr : World) : Prop := ∃ k : Nat, k ≤ L.length ∧ i = .int .i64 k ∧ declL L = declL (L.drop k) ∧ Below w0.heap.size w0 wr
theorem linesF_le : ∀ (f : Nat) (r : List UInt8) (i : Nat), ∀ x ∈ linesF f r i, x.1.length ≤ r.length
  | 0, r, i, x, h => by simp [linesF] at h
  | f + 1, r, i, x, h => by
    unfold linesF at h
    split at h
    · simp at h
    · have h2 := ln_le r
      rcases List.mem_cons.1 h with rfl | h
      · show (lnT r).length ≤ _; omega
      · have := linesF_le f _ _ x h
        rw [List.length_drop] at this
        omega
theorem LFault_any (a : Int) (w : World) :
    Calls Tryd.prog 7 #[.int .i64 a] w fun e w' => e = .returned (.agg #[.int .i64 (if a < 0 then 0 else 1), .int .i64 (if a < 0 then 0 else a)]) ∧ Below w.heap.size w w' := by
  by_cases h : a < 0
  · rw [if_pos h, if_pos h]
    go_enter Tryd.func7, Tryd.ntmps7
    go_wp2_with fail
    refine bodyPost_ret (v := .agg #[.int .i64 0, .int .i64 0]) (by simp [results, Tryd.results7, go_sem]) rfl ?_
    exact ⟨rfl, (Below.refl _ w).alloc (Nat.le_refl _) _⟩
  · rw [if_neg h, if_neg h]
    go_enter Tryd.func7, Tryd.ntmps7
    go_wp2_with fail
    refine bodyPost_ret (v := .agg #[.int .i64 1, .int .i64 a]) (by simp [results, Tryd.results7, go_sem]) rfl ?_
    exact ⟨rfl, (Below.refl _ w).alloc (Nat.le_refl _) _⟩
end Go.Proofs.YtlcgfgbdehdndaaDoor
