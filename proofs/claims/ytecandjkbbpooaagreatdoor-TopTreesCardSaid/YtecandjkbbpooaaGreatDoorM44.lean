/- Lemmas for a statement on the tops; conditions: as each says. -/
import Derived.Test.YtecandjkbbpooaaGreatDoorM43
set_option linter.unusedVariables false
set_option linter.unusedSimpArgs false
set_option maxRecDepth 100000
set_option maxHeartbeats 4000000
namespace Go.Proofs.YtecandjkbbpooaaGreatDoor
open Go Go.RowKit
namespace Ev
theorem aw01:ToldOk (tAw 216):=ZS (L:=[]) (ZN) ZQ 100000 _ _ _ rfl rfl (by decide+kernel)
theorem aw02:ToldOk (tAw 214):=ZS (L:=[]) (ZN) ZQ 100000 _ _ _ rfl rfl (by decide+kernel)
theorem aw03:ToldOk (tAw 132):=ZS (L:=[tAw 214]) (Za aw02<|ZN) ZQ 100000 _ _ _ rfl rfl (by decide+kernel)
theorem aw06:ToldOk (tAw 278):=ZS (L:=[]) (ZN) ZQ 100000 _ _ _ rfl rfl (by decide+kernel)
theorem aw08:ToldOk (tAw 280):=ZS (L:=[]) (ZN) ZQ 100000 _ _ _ rfl rfl (by decide+kernel)
theorem aw11:ToldOk (tAw 217):=ZS (L:=[]) (ZN) ZQ 100000 _ _ _ rfl rfl (by decide+kernel)
theorem aw22:ToldOk (tAw 221):=ZS (L:=[tAw 216]) (Za aw01<|ZN) ZQ 100000 _ _ _ rfl rfl (by decide+kernel)
theorem aw12:ToldOk (tAw 138):=ZS (L:=[tAw 216]) (Za aw01<|ZN) ZQ 100000 _ _ _ rfl rfl (by decide+kernel)
end Ev
end Go.Proofs.YtecandjkbbpooaaGreatDoor
