/- Lemmas for a statement on the tops; conditions: as each says. -/
import Derived.Test.YtjilfbhkdjanhaaGreatDoorM39
set_option linter.all false
set_option maxRecDepth 100000
set_option maxHeartbeats 4000000
namespace Go.Proofs.YtjilfbhkdjanhaaGreatDoor
open Go Go.RowKit
namespace Ev
def aw13:ToldOk (tAw 114):=ZU (L:=[tAw 183,tAw 184]) (Za aw01<|Za aw11<|ZL) ZP 100000 _ _ _ rfl rfl (by decide+kernel)
def aw16:ToldOk (tAw 185):=ZU (L:=[tAw 183]) (Za aw01<|ZL) ZP 100000 _ _ _ rfl rfl (by decide+kernel)
def aw17:ToldOk (tAw 115):=ZU (L:=[tAw 185]) (Za aw16<|ZL) ZP 100000 _ _ _ rfl rfl (by decide+kernel)
def aw18:ToldOk (tAw 116):=ZU (L:=[tAw 115]) (Za aw17<|ZL) ZP 100000 _ _ _ rfl rfl (by decide+kernel)
def aw15:ToldOk (tAw 70):=ZU (L:=[tAw 114]) (Za aw13<|ZL) ZP 100000 _ _ _ rfl rfl (by decide+kernel)
end Ev
