/- LrcChanges holds; no condition. -/
import Derived.Test.YtlcgfgbdehdndaaDoorYX
import Derived.Test.YtlcgfgbdehdndaaDoorYW
set_option maxRecDepth 100000
set_option maxHeartbeats 4000000
namespace Go.Proofs.YtlcgfgbdehdndaaDoor
open Go Go.RowKit

def C2Rel (b : List UInt8) (ps : List Pc) (v : Value) (w0 : World) (i : Value) (wr : World) : Prop := ∃ k : Nat, k ≤ ps.length ∧ i = .int .i64 k ∧ wr.ownsRow w0.heap.size 54 3 v ps.length ((mid b ps k).flatMap pcV) ∧ Below w0.heap.size w0 wr
def C3Rel (n : Nat) (w0 : World) (i : Value) (wr : World) : Prop := ∃ k : Nat, k ≤ n ∧ i = .int .i64 k ∧ Below w0.heap.size w0 wr
theorem Bad1 (n : Int) (w : World) : Calls Tryd.prog 23 #[.agg #[.int .i64 1, .int .i64 n]] w fun e w' => e = .returned (.bool true) ∧ Below w.heap.size w w' := by
  go_enter Tryd.func23, Tryd.ntmps23
  go_wp2_with fail
  go_ret
  exact ⟨rfl, (Below.refl _ w).alloc (Nat.le_refl _) _⟩
end Go.Proofs.YtlcgfgbdehdndaaDoor
