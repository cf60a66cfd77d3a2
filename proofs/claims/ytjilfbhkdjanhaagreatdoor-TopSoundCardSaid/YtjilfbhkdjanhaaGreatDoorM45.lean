/- Lemmas for a statement on the tops; conditions: as each says. -/
import Derived.Test.YtjilfbhkdjanhaaGreatDoorM43
import Derived.Test.YtjilfbhkdjanhaaGreatDoorM44
set_option linter.all false
set_option maxRecDepth 100000
set_option maxHeartbeats 4000000
namespace Go.Proofs.YtjilfbhkdjanhaaGreatDoor
open Go Go.RowKit
namespace Ev
def aw28:ToldOk (tAw 39):=ZU (L:=[tAw 69,tAw 70,tAw 71,tAw 72,tAw 73]) (Za aw14<|Za aw15<|Za aw20<|Za aw21<|Za aw27<|ZL) ZP 100000 _ _ _ rfl rfl (by decide+kernel)
def aw29:ToldOk (tAw 12):=ZU (L:=[tAw 39,d29]) (Za aw28<|Za d29_ok<|ZL) ZP 100000 _ _ _ rfl rfl (by decide+kernel)
end Ev
