/- Lemmas for a statement on the tops; conditions: as each says. -/
import Derived.Test.YtnbkfkbcpfkddaaGreatDoorM47
set_option linter.unusedVariables false
set_option linter.unusedSimpArgs false
set_option maxRecDepth 100000
set_option maxHeartbeats 4000000
namespace Go.Proofs.YtnbkfkbcpfkddaaGreatDoor
open Go Go.RowKit
namespace Ev
theorem aw14:ToldOk (tAw 71):=ZM (L:=[tAw 144,tAw 145]) (Za aw03<|Za aw10<|ZJ) ZK 100000 _ _ _ rfl rfl (by decide+kernel)
theorem aw19:ToldOk (tAw 149):=ZM (L:=[tAw 222,tAw 145]) (Za aw01<|Za aw10<|ZJ) ZK 100000 _ _ _ rfl rfl (by decide+kernel)
theorem aw21:ToldOk (tAw 74):=ZM (L:=[tAw 149]) (Za aw19<|ZJ) ZK 100000 _ _ _ rfl rfl (by decide+kernel)
end Ev
end Go.Proofs.YtnbkfkbcpfkddaaGreatDoor
