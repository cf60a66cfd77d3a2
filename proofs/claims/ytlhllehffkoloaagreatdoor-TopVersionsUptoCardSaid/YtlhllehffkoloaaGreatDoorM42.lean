/- Lemmas for TopVersions; conditions: as each says. -/
import Derived.Test.YtlhllehffkoloaaGreatDoorM40
import Derived.Test.YtlhllehffkoloaaGreatDoorM41
set_option linter.unusedVariables false
set_option linter.unusedSimpArgs false
set_option maxRecDepth 100000
set_option maxHeartbeats 4000000
namespace Go.Proofs.YtlhllehffkoloaaGreatDoor
open Go Go.RowKit
namespace Ev
theorem aw28:ToldOk (tAw 31):=Zad (L:=[tAw 89,tAw 12,tAw 90,tAw 91,tAw 92]) (Za aw14<|Za aw15<|Za aw20<|Za aw21<|Za aw27<|Z5) Zaa 100000 _ _ _ rfl rfl (by decide+kernel)
theorem aw29:ToldOk (tAw 13):=Zad (L:=[tAw 31,d29]) (Za aw28<|Za d29_ok<|Z5) Zaa 100000 _ _ _ rfl rfl (by decide+kernel)
end Ev
end Go.Proofs.YtlhllehffkoloaaGreatDoor
