/- Lemmas for TopVersions; conditions: as each says. -/
import Derived.Test.YtlhllehffkoloaaGreatDoorM36
set_option linter.unusedVariables false
set_option linter.unusedSimpArgs false
set_option maxRecDepth 100000
set_option maxHeartbeats 4000000
namespace Go.Proofs.YtlhllehffkoloaaGreatDoor
open Go Go.RowKit
namespace Ev
theorem aw13:ToldOk (tAw 30):=Zad (L:=[tAw 87,tAw 88]) (Za aw01<|Za aw11<|Z5) Zaa 100000 _ _ _ rfl rfl (by decide+kernel)
theorem aw16:ToldOk (tAw 231):=Zad (L:=[tAw 87]) (Za aw01<|Z5) Zaa 100000 _ _ _ rfl rfl (by decide+kernel)
theorem aw17:ToldOk (tAw 158):=Zad (L:=[tAw 231]) (Za aw16<|Z5) Zaa 100000 _ _ _ rfl rfl (by decide+kernel)
theorem aw18:ToldOk (tAw 159):=Zad (L:=[tAw 158]) (Za aw17<|Z5) Zaa 100000 _ _ _ rfl rfl (by decide+kernel)
theorem aw15:ToldOk (tAw 12):=Zad (L:=[tAw 30]) (Za aw13<|Z5) Zaa 100000 _ _ _ rfl rfl (by decide+kernel)
end Ev
end Go.Proofs.YtlhllehffkoloaaGreatDoor
