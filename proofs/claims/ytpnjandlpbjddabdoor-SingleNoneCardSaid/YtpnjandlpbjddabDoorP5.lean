/- Contract: the document's Points. -/
import Derived.Test.YtpnjandlpbjddabDoorP4
namespace Go.Proofs.YtpnjandlpbjddabDoor
open Go Go.RowKit
set_option maxRecDepth 100000

theorem RAt_step {s : ByteArray} {ps : List Int} {k i n : Nat} {p : Int} (h : Step s ps k i p n) (hi : i < s.size) (hz : s.size ≤ 140737488355328) (w : World) :
    Calls Tryd.prog 52 #[.string s, .int .i64 i] w fun e w' => e = .returned (.tuple #[.int .i32 p, .int .i64 n]) ∧ Below w.heap.size w w' := by
  obtain ⟨⟨t, ht⟩, hn, _, hs⟩ := h
  have h2 := RAt_any s i hi hz w
  rw [ht, atL_enc hs, ← hn] at h2
  exact h2
theorem RAt_bad (s : ByteArray) (i : Nat) (hi : i < s.size) (hd : errD (decL (s.data.toList.drop i))) (hz : s.size ≤ 140737488355328) (w : World) :
    Calls Tryd.prog 52 #[.string s, .int .i64 i] w fun e w' => e = .returned (.tuple #[.int .i32 0, .int .i64 0]) ∧ Below w.heap.size w w' := by
  have h2 := RAt_any s i hi hz w
  have hne : s.data.toList.drop i ≠ [] := by
    intro h
    have := congrArg List.length h
    simp at this
    omega
  rw [atL_err hne hd] at h2
  exact h2

def RPointsRel (ps : List Int) (w0 : World) (v i : Value) (wr : World) : Prop :=
  ∃ k j : Nat, Run ps k j ∧ i = .int .i64 j ∧ wr.ownsRow w0.heap.size 21 1 v k ((ps.take k).map (Value.int .i32)) ∧ Below w0.heap.size w0 wr

end Go.Proofs.YtpnjandlpbjddabDoor
