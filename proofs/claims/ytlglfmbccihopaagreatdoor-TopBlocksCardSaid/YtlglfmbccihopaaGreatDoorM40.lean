/- Lemmas for a statement on the tops; conditions: as each says. -/
import Derived.Test.YtlglfmbccihopaaGreatDoorM39
set_option linter.unusedVariables false
set_option linter.unusedSimpArgs false
set_option maxRecDepth 100000
set_option maxHeartbeats 4000000
namespace Go.Proofs.YtlglfmbccihopaaGreatDoor
open Go Go.RowKit
namespace Ev
theorem aw13:ToldOk (tAw 134):=ZR (L:=[tAw 214,tAw 215]) (Za aw01<|Za aw11<|ZM) ZP 100000 _ _ _ rfl rfl (by decide+kernel)
theorem aw16:ToldOk (tAw 216):=ZR (L:=[tAw 214]) (Za aw01<|ZM) ZP 100000 _ _ _ rfl rfl (by decide+kernel)
theorem aw17:ToldOk (tAw 135):=ZR (L:=[tAw 216]) (Za aw16<|ZM) ZP 100000 _ _ _ rfl rfl (by decide+kernel)
theorem aw18:ToldOk (tAw 136):=ZR (L:=[tAw 135]) (Za aw17<|ZM) ZP 100000 _ _ _ rfl rfl (by decide+kernel)
theorem aw15:ToldOk (tAw 68):=ZR (L:=[tAw 134]) (Za aw13<|ZM) ZP 100000 _ _ _ rfl rfl (by decide+kernel)
end Ev
end Go.Proofs.YtlglfmbccihopaaGreatDoor
