/- Lemmas for a statement on the tops; conditions: as each says. -/
import Derived.Test.YtlglfmbccihopaaGreatDoorM40
import Derived.Test.YtlglfmbccihopaaGreatDoorM42
set_option linter.unusedVariables false
set_option linter.unusedSimpArgs false
set_option maxRecDepth 100000
set_option maxHeartbeats 4000000
namespace Go.Proofs.YtlglfmbccihopaaGreatDoor
open Go Go.RowKit
namespace Ev
theorem aw20:ToldOk (tAw 69):=ZR (L:=[tAw 135,tAw 136,tAw 137]) (Za aw17<|Za aw18<|Za aw19<|ZM) ZP 100000 _ _ _ rfl rfl (by decide+kernel)
end Ev
end Go.Proofs.YtlglfmbccihopaaGreatDoor
