/- Lemmas for a statement on the tops; conditions: as each says. -/
import Derived.Test.YtnbkfkbcpfkddaaGreatDoorM44
set_option linter.unusedVariables false
set_option linter.unusedSimpArgs false
set_option maxRecDepth 100000
set_option maxHeartbeats 4000000
namespace Go.Proofs.YtnbkfkbcpfkddaaGreatDoor
open Go Go.RowKit
namespace Ev
theorem aw01:ToldOk (tAw 222):=ZM (L:=[]) (ZJ) ZK 100000 _ _ _ rfl rfl (by decide+kernel)
theorem aw02:ToldOk (tAw 219):=ZM (L:=[]) (ZJ) ZK 100000 _ _ _ rfl rfl (by decide+kernel)
theorem aw03:ToldOk (tAw 144):=ZM (L:=[tAw 219]) (Za aw02<|ZJ) ZK 100000 _ _ _ rfl rfl (by decide+kernel)
theorem aw06:ToldOk (tAw 283):=ZM (L:=[]) (ZJ) ZK 100000 _ _ _ rfl rfl (by decide+kernel)
theorem aw08:ToldOk (tAw 285):=ZM (L:=[]) (ZJ) ZK 100000 _ _ _ rfl rfl (by decide+kernel)
theorem aw11:ToldOk (tAw 223):=ZM (L:=[]) (ZJ) ZK 100000 _ _ _ rfl rfl (by decide+kernel)
theorem aw22:ToldOk (tAw 227):=ZM (L:=[tAw 222]) (Za aw01<|ZJ) ZK 100000 _ _ _ rfl rfl (by decide+kernel)
theorem aw12:ToldOk (tAw 150):=ZM (L:=[tAw 222]) (Za aw01<|ZJ) ZK 100000 _ _ _ rfl rfl (by decide+kernel)
end Ev
end Go.Proofs.YtnbkfkbcpfkddaaGreatDoor
