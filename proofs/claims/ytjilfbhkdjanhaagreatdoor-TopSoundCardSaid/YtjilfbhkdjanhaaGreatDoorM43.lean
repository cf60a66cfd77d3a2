/- Lemmas for a statement on the tops; conditions: as each says. -/
import Derived.Test.YtjilfbhkdjanhaaGreatDoorM40
import Derived.Test.YtjilfbhkdjanhaaGreatDoorM42
set_option linter.all false
set_option maxRecDepth 100000
set_option maxHeartbeats 4000000
namespace Go.Proofs.YtjilfbhkdjanhaaGreatDoor
open Go Go.RowKit
namespace Ev
def aw20:ToldOk (tAw 71):=ZU (L:=[tAw 115,tAw 116,tAw 117]) (Za aw17<|Za aw18<|Za aw19<|ZL) ZP 100000 _ _ _ rfl rfl (by decide+kernel)
end Ev
