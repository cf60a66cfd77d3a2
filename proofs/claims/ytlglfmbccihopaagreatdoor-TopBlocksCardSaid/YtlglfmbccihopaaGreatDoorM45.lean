/- Lemmas for a statement on the tops; conditions: as each says. -/
import Derived.Test.YtlglfmbccihopaaGreatDoorM43
import Derived.Test.YtlglfmbccihopaaGreatDoorM44
set_option linter.unusedVariables false
set_option linter.unusedSimpArgs false
set_option maxRecDepth 100000
set_option maxHeartbeats 4000000
namespace Go.Proofs.YtlglfmbccihopaaGreatDoor
open Go Go.RowKit
namespace Ev
theorem aw28:ToldOk (tAw 29):=ZR (L:=[tAw 67,tAw 68,tAw 69,tAw 70,tAw 71]) (Za aw14<|Za aw15<|Za aw20<|Za aw21<|Za aw27<|ZM) ZP 100000 _ _ _ rfl rfl (by decide+kernel)
theorem aw29:ToldOk (tAw 13):=ZR (L:=[tAw 29,d29]) (Za aw28<|Za d29_ok<|ZM) ZP 100000 _ _ _ rfl rfl (by decide+kernel)
end Ev
end Go.Proofs.YtlglfmbccihopaaGreatDoor
