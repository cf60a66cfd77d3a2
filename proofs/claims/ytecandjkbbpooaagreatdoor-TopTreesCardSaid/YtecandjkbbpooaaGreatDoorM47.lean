/- Lemmas for a statement on the tops; conditions: as each says. -/
import Derived.Test.YtecandjkbbpooaaGreatDoorM46
set_option linter.unusedVariables false
set_option linter.unusedSimpArgs false
set_option maxRecDepth 100000
set_option maxHeartbeats 4000000
namespace Go.Proofs.YtecandjkbbpooaaGreatDoor
open Go Go.RowKit
namespace Ev
theorem aw14:ToldOk (tAw 65):=ZS (L:=[tAw 132,tAw 133]) (Za aw03<|Za aw10<|ZN) ZQ 100000 _ _ _ rfl rfl (by decide+kernel)
theorem aw19:ToldOk (tAw 137):=ZS (L:=[tAw 216,tAw 133]) (Za aw01<|Za aw10<|ZN) ZQ 100000 _ _ _ rfl rfl (by decide+kernel)
theorem aw21:ToldOk (tAw 68):=ZS (L:=[tAw 137]) (Za aw19<|ZN) ZQ 100000 _ _ _ rfl rfl (by decide+kernel)
end Ev
end Go.Proofs.YtecandjkbbpooaaGreatDoor
