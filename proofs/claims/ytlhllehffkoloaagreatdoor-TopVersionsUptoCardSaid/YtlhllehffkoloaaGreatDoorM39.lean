/- Lemmas for TopVersions; conditions: as each says. -/
import Derived.Test.YtlhllehffkoloaaGreatDoorM38
set_option linter.unusedVariables false
set_option linter.unusedSimpArgs false
set_option maxRecDepth 100000
set_option maxHeartbeats 4000000
namespace Go.Proofs.YtlhllehffkoloaaGreatDoor
open Go Go.RowKit
namespace Ev
theorem aw14:ToldOk (tAw 89):=Zad (L:=[tAw 156,tAw 157]) (Za aw03<|Za aw10<|Z5) Zaa 100000 _ _ _ rfl rfl (by decide+kernel)
theorem aw19:ToldOk (tAw 160):=Zad (L:=[tAw 87,tAw 157]) (Za aw01<|Za aw10<|Z5) Zaa 100000 _ _ _ rfl rfl (by decide+kernel)
theorem aw21:ToldOk (tAw 91):=Zad (L:=[tAw 160]) (Za aw19<|Z5) Zaa 100000 _ _ _ rfl rfl (by decide+kernel)
end Ev
end Go.Proofs.YtlhllehffkoloaaGreatDoor
