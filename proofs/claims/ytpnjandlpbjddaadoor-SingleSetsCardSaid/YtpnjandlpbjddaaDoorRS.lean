/- Contract of the reference's Piece. -/
import Derived.Test.YtpnjandlpbjddaaDoorRR
import Derived.Test.YtpnjandlpbjddaaDoorP5
set_option maxRecDepth 100000
set_option maxHeartbeats 4000000
namespace Go.Proofs.YtpnjandlpbjddaaDoor
open Go Go.RowKit

def RpPost (p : Pce) (w0 : World) (e : Ending) (w' : World) : Prop := (match rowOf p with
  | none => e = .returned (.tuple #[.slice none 0 0, .bool false])
  | some r => ∃ A c, e = .returned (.tuple #[.slice A (prs r).length c, .bool true]) ∧ (prs r).length ≤ c ∧ PrsL w' w'.heap.size A (prs r)) ∧ Below w0.heap.size w0 w'
def PcRel (r : Rw) (base : Nat) (W0 : World) (v i : Value) (wr : World) : Prop := ∃ k : Nat, k ≤ r.2.1 ∧ i = .int .i64 k ∧ wr.ownsRow base 35 2 v ((prs r).take k).length (((prs r).take k).flatMap prV) ∧ Below base W0 wr ∧ base ≤ wr.heap.size
end Go.Proofs.YtpnjandlpbjddaaDoor
