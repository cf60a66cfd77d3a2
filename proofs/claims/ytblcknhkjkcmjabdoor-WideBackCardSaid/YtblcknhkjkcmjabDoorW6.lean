/- Contracts of the document's answer for layer 3: Unit, Units, two, Encode; conditions: fewer than 2^45 bytes, below a million signs. -/
import Derived.Test.YtblcknhkjkcmjabDoorW5
import Derived.Test.YtblcknhkjkcmjabDoorLin
set_option maxRecDepth 100000
set_option maxHeartbeats 1000000
namespace Go.Proofs.YtblcknhkjkcmjabDoor
open Go Go.RowKit

def REncRel (big : Bool) (ps : List Int) (w0 : World) (s i : Value) (wr : World) : Prop := ∃ k : Nat, k ≤ ps.length ∧ i = .int .i64 k ∧ s = .string ⟨(wtext big (ps.take k)).toArray⟩ ∧ Below w0.heap.size w0 wr
end Go.Proofs.YtblcknhkjkcmjabDoor
