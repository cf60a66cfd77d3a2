/- Lemmas for a statement on the tops; conditions: as each says. -/
import Derived.Test.YtlglfmbccihopaaGreatDoorM38
set_option linter.unusedVariables false
set_option linter.unusedSimpArgs false
set_option maxRecDepth 100000
set_option maxHeartbeats 4000000
namespace Go.Proofs.YtlglfmbccihopaaGreatDoor
open Go Go.RowKit
namespace Ev
theorem aw01:ToldOk (tAw 214):=ZR (L:=[]) (ZM) ZP 100000 _ _ _ rfl rfl (by decide+kernel)
theorem aw02:ToldOk (tAw 211):=ZR (L:=[]) (ZM) ZP 100000 _ _ _ rfl rfl (by decide+kernel)
theorem aw03:ToldOk (tAw 132):=ZR (L:=[tAw 211]) (Za aw02<|ZM) ZP 100000 _ _ _ rfl rfl (by decide+kernel)
theorem aw06:ToldOk (tAw 277):=ZR (L:=[]) (ZM) ZP 100000 _ _ _ rfl rfl (by decide+kernel)
theorem aw08:ToldOk (tAw 279):=ZR (L:=[]) (ZM) ZP 100000 _ _ _ rfl rfl (by decide+kernel)
theorem aw11:ToldOk (tAw 215):=ZR (L:=[]) (ZM) ZP 100000 _ _ _ rfl rfl (by decide+kernel)
theorem aw22:ToldOk (tAw 221):=ZR (L:=[tAw 214]) (Za aw01<|ZM) ZP 100000 _ _ _ rfl rfl (by decide+kernel)
theorem aw12:ToldOk (tAw 138):=ZR (L:=[tAw 214]) (Za aw01<|ZM) ZP 100000 _ _ _ rfl rfl (by decide+kernel)
end Ev
end Go.Proofs.YtlglfmbccihopaaGreatDoor
