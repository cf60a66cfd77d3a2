/- Lemmas for a statement on the tops; conditions: as each says. -/
import Derived.Test.YtlfinljfghhpdaaGreatDoorM42
set_option linter.unusedVariables false
set_option linter.unusedSimpArgs false
set_option maxRecDepth 100000
set_option maxHeartbeats 4000000
namespace Go.Proofs.YtlfinljfghhpdaaGreatDoor
open Go Go.RowKit
namespace Ev
theorem aw14:ToldOk (tAw 43):=ZO (L:=[tAw 98,tAw 99]) (Za aw03<|Za aw10<|ZK) ZL 100000 _ _ _ rfl rfl (by decide+kernel)
theorem aw19:ToldOk (tAw 103):=ZO (L:=[tAw 185,tAw 99]) (Za aw01<|Za aw10<|ZK) ZL 100000 _ _ _ rfl rfl (by decide+kernel)
theorem aw21:ToldOk (tAw 46):=ZO (L:=[tAw 103]) (Za aw19<|ZK) ZL 100000 _ _ _ rfl rfl (by decide+kernel)
end Ev
end Go.Proofs.YtlfinljfghhpdaaGreatDoor
