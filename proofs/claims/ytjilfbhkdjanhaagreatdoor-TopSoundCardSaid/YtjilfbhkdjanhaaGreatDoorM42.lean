/- Lemmas for a statement on the tops; conditions: as each says. -/
import Derived.Test.YtjilfbhkdjanhaaGreatDoorM41
set_option linter.all false
set_option maxRecDepth 100000
set_option maxHeartbeats 4000000
namespace Go.Proofs.YtjilfbhkdjanhaaGreatDoor
open Go Go.RowKit
namespace Ev
def aw14:ToldOk (tAw 69):=ZU (L:=[tAw 112,tAw 113]) (Za aw03<|Za aw10<|ZL) ZP 100000 _ _ _ rfl rfl (by decide+kernel)
def aw19:ToldOk (tAw 117):=ZU (L:=[tAw 183,tAw 113]) (Za aw01<|Za aw10<|ZL) ZP 100000 _ _ _ rfl rfl (by decide+kernel)
def aw21:ToldOk (tAw 72):=ZU (L:=[tAw 117]) (Za aw19<|ZL) ZP 100000 _ _ _ rfl rfl (by decide+kernel)
end Ev
