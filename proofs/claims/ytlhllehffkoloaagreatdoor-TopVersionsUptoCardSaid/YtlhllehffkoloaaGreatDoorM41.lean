/- Lemmas for TopVersions; conditions: as each says. -/
import Derived.Test.YtlhllehffkoloaaGreatDoorM39
set_option linter.unusedVariables false
set_option linter.unusedSimpArgs false
set_option maxRecDepth 100000
set_option maxHeartbeats 4000000
namespace Go.Proofs.YtlhllehffkoloaaGreatDoor
open Go Go.RowKit
namespace Ev
theorem aw27:ToldOk (tAw 92):=Zad (L:=[tAw 156,tAw 157,tAw 161,tAw 162,tAw 163,tAw 164,tAw 165]) (Za aw03<|Za aw10<|Za aw12<|Za aw23<|Za aw24<|Za aw25<|Za aw26<|Z5) Zaa 100000 _ _ _ rfl rfl (by decide+kernel)
end Ev
end Go.Proofs.YtlhllehffkoloaaGreatDoor
