/- Contract of the reference's Piece. -/
import Derived.Test.YtpnjandlpbjddabDoorRR
import Derived.Test.YtpnjandlpbjddabDoorP5
set_option maxRecDepth 100000
set_option maxHeartbeats 4000000
namespace Go.Proofs.YtpnjandlpbjddabDoor
open Go Go.RowKit

def RpPost (p : Pce) (w0 : World) (e : Ending) (w' : World) : Prop := (match rowOf p with
  | none => e = .returned (.tuple #[.slice none 0 0, .bool false])
  | some r => ∃ A c, e = .returned (.tuple #[.slice A (prs r).length c, .bool true]) ∧ (prs r).length ≤ c ∧ PrsL w' w'.heap.size A (prs r)) ∧ Below w0.heap.size w0 w'
end Go.Proofs.YtpnjandlpbjddabDoor
