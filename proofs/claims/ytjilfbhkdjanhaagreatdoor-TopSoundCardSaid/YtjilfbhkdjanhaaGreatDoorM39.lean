/- Lemmas for a statement on the tops; conditions: as each says. -/
import Derived.Test.YtjilfbhkdjanhaaGreatDoorM38
set_option linter.all false
set_option maxRecDepth 100000
set_option maxHeartbeats 4000000
namespace Go.Proofs.YtjilfbhkdjanhaaGreatDoor
open Go Go.RowKit
namespace Ev
def aw01:ToldOk (tAw 183):=ZU (L:=[]) (ZL) ZP 100000 _ _ _ rfl rfl (by decide+kernel)
def aw03:ToldOk (tAw 112):=ZU (L:=[tAw 179]) (Za aw02<|ZL) ZP 100000 _ _ _ rfl rfl (by decide+kernel)
def aw06:ToldOk (tAw 254):=ZU (L:=[]) (ZL) ZP 100000 _ _ _ rfl rfl (by decide+kernel)
def aw08:ToldOk (tAw 256):=ZU (L:=[]) (ZL) ZP 100000 _ _ _ rfl rfl (by decide+kernel)
def aw11:ToldOk (tAw 184):=ZU (L:=[]) (ZL) ZP 100000 _ _ _ rfl rfl (by decide+kernel)
def aw22:ToldOk (tAw 188):=ZU (L:=[tAw 183]) (Za aw01<|ZL) ZP 100000 _ _ _ rfl rfl (by decide+kernel)
def aw12:ToldOk (tAw 118):=ZU (L:=[tAw 183]) (Za aw01<|ZL) ZP 100000 _ _ _ rfl rfl (by decide+kernel)
end Ev
