/- Lemmas for a statement on the tops; conditions: as each says. -/
import Derived.Deep.RegionHeld3
import Derived.Test.YtnbkfkbcpfkddaaGreatDoorM18
import Derived.Test.YtnbkfkbcpfkddaaGreatDoorM19
set_option linter.unusedVariables false
set_option linter.unusedSimpArgs false
set_option maxRecDepth 100000
set_option maxHeartbeats 200000
namespace Go.Proofs.YtnbkfkbcpfkddaaGreatDoor
open Go
def Zbj (l:List UInt8):Bool:=match Zcq l with| .inl _=>true| .inr _=>false
end Go.Proofs.YtnbkfkbcpfkddaaGreatDoor
