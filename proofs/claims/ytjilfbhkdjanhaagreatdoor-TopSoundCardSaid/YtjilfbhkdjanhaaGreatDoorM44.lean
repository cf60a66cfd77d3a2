/- Lemmas for a statement on the tops; conditions: as each says. -/
import Derived.Test.YtjilfbhkdjanhaaGreatDoorM42
set_option linter.all false
set_option maxRecDepth 100000
set_option maxHeartbeats 4000000
namespace Go.Proofs.YtjilfbhkdjanhaaGreatDoor
open Go Go.RowKit
namespace Ev
def aw27:ToldOk (tAw 73):=ZU (L:=[tAw 112,tAw 113,tAw 118,tAw 119,tAw 120,tAw 121,tAw 122]) (Za aw03<|Za aw10<|Za aw12<|Za aw23<|Za aw24<|Za aw25<|Za aw26<|ZL) ZP 100000 _ _ _ rfl rfl (by decide+kernel)
end Ev
