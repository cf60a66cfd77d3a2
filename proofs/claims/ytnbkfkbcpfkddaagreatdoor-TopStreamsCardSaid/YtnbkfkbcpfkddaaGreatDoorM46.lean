/- Lemmas for a statement on the tops; conditions: as each says. -/
import Derived.Test.YtnbkfkbcpfkddaaGreatDoorM45
set_option linter.unusedVariables false
set_option linter.unusedSimpArgs false
set_option maxRecDepth 100000
set_option maxHeartbeats 4000000
namespace Go.Proofs.YtnbkfkbcpfkddaaGreatDoor
open Go Go.RowKit
namespace Ev
theorem aw13:ToldOk (tAw 146):=ZM (L:=[tAw 222,tAw 223]) (Za aw01<|Za aw11<|ZJ) ZK 100000 _ _ _ rfl rfl (by decide+kernel)
theorem aw16:ToldOk (tAw 224):=ZM (L:=[tAw 222]) (Za aw01<|ZJ) ZK 100000 _ _ _ rfl rfl (by decide+kernel)
theorem aw17:ToldOk (tAw 147):=ZM (L:=[tAw 224]) (Za aw16<|ZJ) ZK 100000 _ _ _ rfl rfl (by decide+kernel)
theorem aw18:ToldOk (tAw 148):=ZM (L:=[tAw 147]) (Za aw17<|ZJ) ZK 100000 _ _ _ rfl rfl (by decide+kernel)
theorem aw15:ToldOk (tAw 72):=ZM (L:=[tAw 146]) (Za aw13<|ZJ) ZK 100000 _ _ _ rfl rfl (by decide+kernel)
end Ev
end Go.Proofs.YtnbkfkbcpfkddaaGreatDoor
