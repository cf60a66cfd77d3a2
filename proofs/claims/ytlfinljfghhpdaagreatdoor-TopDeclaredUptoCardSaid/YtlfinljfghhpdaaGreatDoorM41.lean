/- Lemmas for a statement on the tops; conditions: as each says. -/
import Derived.Test.YtlfinljfghhpdaaGreatDoorM40
set_option linter.unusedVariables false
set_option linter.unusedSimpArgs false
set_option maxRecDepth 100000
set_option maxHeartbeats 4000000
namespace Go.Proofs.YtlfinljfghhpdaaGreatDoor
open Go Go.RowKit
namespace Ev
theorem aw01:ToldOk (tAw 185):=ZO (L:=[]) (ZK) ZL 100000 _ _ _ rfl rfl (by decide+kernel)
theorem aw03:ToldOk (tAw 98):=ZO (L:=[tAw 180]) (Za aw02<|ZK) ZL 100000 _ _ _ rfl rfl (by decide+kernel)
theorem aw06:ToldOk (tAw 264):=ZO (L:=[]) (ZK) ZL 100000 _ _ _ rfl rfl (by decide+kernel)
theorem aw08:ToldOk (tAw 266):=ZO (L:=[]) (ZK) ZL 100000 _ _ _ rfl rfl (by decide+kernel)
theorem aw11:ToldOk (tAw 186):=ZO (L:=[]) (ZK) ZL 100000 _ _ _ rfl rfl (by decide+kernel)
theorem aw22:ToldOk (tAw 192):=ZO (L:=[tAw 185]) (Za aw01<|ZK) ZL 100000 _ _ _ rfl rfl (by decide+kernel)
theorem aw12:ToldOk (tAw 104):=ZO (L:=[tAw 185]) (Za aw01<|ZK) ZL 100000 _ _ _ rfl rfl (by decide+kernel)
end Ev
namespace Ev
theorem aw13:ToldOk (tAw 100):=ZO (L:=[tAw 185,tAw 186]) (Za aw01<|Za aw11<|ZK) ZL 100000 _ _ _ rfl rfl (by decide+kernel)
theorem aw16:ToldOk (tAw 187):=ZO (L:=[tAw 185]) (Za aw01<|ZK) ZL 100000 _ _ _ rfl rfl (by decide+kernel)
theorem aw17:ToldOk (tAw 101):=ZO (L:=[tAw 187]) (Za aw16<|ZK) ZL 100000 _ _ _ rfl rfl (by decide+kernel)
theorem aw18:ToldOk (tAw 102):=ZO (L:=[tAw 101]) (Za aw17<|ZK) ZL 100000 _ _ _ rfl rfl (by decide+kernel)
theorem aw15:ToldOk (tAw 44):=ZO (L:=[tAw 100]) (Za aw13<|ZK) ZL 100000 _ _ _ rfl rfl (by decide+kernel)
end Ev
end Go.Proofs.YtlfinljfghhpdaaGreatDoor
