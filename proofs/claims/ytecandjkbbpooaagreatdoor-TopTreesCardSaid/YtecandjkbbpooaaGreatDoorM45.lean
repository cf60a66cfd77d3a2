/- Lemmas for a statement on the tops; conditions: as each says. -/
import Derived.Test.YtecandjkbbpooaaGreatDoorM44
set_option linter.unusedVariables false
set_option linter.unusedSimpArgs false
set_option maxRecDepth 100000
set_option maxHeartbeats 4000000
namespace Go.Proofs.YtecandjkbbpooaaGreatDoor
open Go Go.RowKit
namespace Ev
theorem aw13:ToldOk (tAw 134):=ZS (L:=[tAw 216,tAw 217]) (Za aw01<|Za aw11<|ZN) ZQ 100000 _ _ _ rfl rfl (by decide+kernel)
theorem aw16:ToldOk (tAw 218):=ZS (L:=[tAw 216]) (Za aw01<|ZN) ZQ 100000 _ _ _ rfl rfl (by decide+kernel)
theorem aw17:ToldOk (tAw 135):=ZS (L:=[tAw 218]) (Za aw16<|ZN) ZQ 100000 _ _ _ rfl rfl (by decide+kernel)
theorem aw18:ToldOk (tAw 136):=ZS (L:=[tAw 135]) (Za aw17<|ZN) ZQ 100000 _ _ _ rfl rfl (by decide+kernel)
theorem aw15:ToldOk (tAw 66):=ZS (L:=[tAw 134]) (Za aw13<|ZN) ZQ 100000 _ _ _ rfl rfl (by decide+kernel)
end Ev
end Go.Proofs.YtecandjkbbpooaaGreatDoor
