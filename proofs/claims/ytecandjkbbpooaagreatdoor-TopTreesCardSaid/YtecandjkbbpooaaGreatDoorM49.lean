/- Lemmas for a statement on the tops; conditions: as each says. -/
import Derived.Test.YtecandjkbbpooaaGreatDoorM47
set_option linter.unusedVariables false
set_option linter.unusedSimpArgs false
set_option maxRecDepth 100000
set_option maxHeartbeats 4000000
namespace Go.Proofs.YtecandjkbbpooaaGreatDoor
open Go Go.RowKit
namespace Ev
theorem aw27:ToldOk (tAw 69):=ZS (L:=[tAw 132,tAw 133,tAw 138,tAw 139,tAw 140,tAw 141,tAw 142]) (Za aw03<|Za aw10<|Za aw12<|Za aw23<|Za aw24<|Za aw25<|Za aw26<|ZN) ZQ 100000 _ _ _ rfl rfl (by decide+kernel)
end Ev
end Go.Proofs.YtecandjkbbpooaaGreatDoor
