/- Lemmas for a statement on the tops; conditions: as each says. -/
import Derived.Test.YtecandjkbbpooaaGreatDoorM48
import Derived.Test.YtecandjkbbpooaaGreatDoorM49
set_option linter.unusedVariables false
set_option linter.unusedSimpArgs false
set_option maxRecDepth 100000
set_option maxHeartbeats 4000000
namespace Go.Proofs.YtecandjkbbpooaaGreatDoor
open Go Go.RowKit
namespace Ev
theorem aw28:ToldOk (tAw 23):=ZS (L:=[tAw 65,tAw 66,tAw 67,tAw 68,tAw 69]) (Za aw14<|Za aw15<|Za aw20<|Za aw21<|Za aw27<|ZN) ZQ 100000 _ _ _ rfl rfl (by decide+kernel)
theorem aw29:ToldOk (tAw 11):=ZS (L:=[tAw 23,d29]) (Za aw28<|Za d29_ok<|ZN) ZQ 100000 _ _ _ rfl rfl (by decide+kernel)
end Ev
end Go.Proofs.YtecandjkbbpooaaGreatDoor
