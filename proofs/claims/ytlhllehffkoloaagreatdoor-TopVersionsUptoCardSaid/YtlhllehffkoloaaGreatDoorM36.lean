/- Lemmas for TopVersions; conditions: as each says. -/
import Derived.Test.YtlhllehffkoloaaGreatDoorM35
set_option linter.unusedVariables false
set_option linter.unusedSimpArgs false
set_option maxRecDepth 100000
set_option maxHeartbeats 4000000
namespace Go.Proofs.YtlhllehffkoloaaGreatDoor
open Go Go.RowKit
namespace Ev
theorem aw01:ToldOk (tAw 87):=Zad (L:=[]) (Z5) Zaa 100000 _ _ _ rfl rfl (by decide+kernel)
theorem aw02:ToldOk (tAw 229):=Zad (L:=[]) (Z5) Zaa 100000 _ _ _ rfl rfl (by decide+kernel)
theorem aw03:ToldOk (tAw 156):=Zad (L:=[tAw 229]) (Za aw02<|Z5) Zaa 100000 _ _ _ rfl rfl (by decide+kernel)
theorem aw06:ToldOk (tAw 287):=Zad (L:=[]) (Z5) Zaa 100000 _ _ _ rfl rfl (by decide+kernel)
theorem aw08:ToldOk (tAw 289):=Zad (L:=[]) (Z5) Zaa 100000 _ _ _ rfl rfl (by decide+kernel)
theorem aw11:ToldOk (tAw 88):=Zad (L:=[]) (Z5) Zaa 100000 _ _ _ rfl rfl (by decide+kernel)
theorem aw22:ToldOk (tAw 236):=Zad (L:=[tAw 87]) (Za aw01<|Z5) Zaa 100000 _ _ _ rfl rfl (by decide+kernel)
theorem aw12:ToldOk (tAw 161):=Zad (L:=[tAw 87]) (Za aw01<|Z5) Zaa 100000 _ _ _ rfl rfl (by decide+kernel)
end Ev
end Go.Proofs.YtlhllehffkoloaaGreatDoor
