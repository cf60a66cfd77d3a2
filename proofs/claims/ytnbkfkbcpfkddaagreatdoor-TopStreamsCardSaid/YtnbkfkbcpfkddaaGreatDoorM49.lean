/- Lemmas for a statement on the tops; conditions: as each says. -/
import Derived.Test.YtnbkfkbcpfkddaaGreatDoorM46
import Derived.Test.YtnbkfkbcpfkddaaGreatDoorM48
set_option linter.unusedVariables false
set_option linter.unusedSimpArgs false
set_option maxRecDepth 100000
set_option maxHeartbeats 4000000
namespace Go.Proofs.YtnbkfkbcpfkddaaGreatDoor
open Go Go.RowKit
namespace Ev
theorem aw20:ToldOk (tAw 73):=ZM (L:=[tAw 147,tAw 148,tAw 149]) (Za aw17<|Za aw18<|Za aw19<|ZJ) ZK 100000 _ _ _ rfl rfl (by decide+kernel)
theorem aw27:ToldOk (tAw 75):=ZM (L:=[tAw 144,tAw 145,tAw 150,tAw 151,tAw 152,tAw 153,tAw 154]) (Za aw03<|Za aw10<|Za aw12<|Za aw23<|Za aw24<|Za aw25<|Za aw26<|ZJ) ZK 100000 _ _ _ rfl rfl (by decide+kernel)
theorem aw28:ToldOk (tAw 29):=ZM (L:=[tAw 71,tAw 72,tAw 73,tAw 74,tAw 75]) (Za aw14<|Za aw15<|Za aw20<|Za aw21<|Za aw27<|ZJ) ZK 100000 _ _ _ rfl rfl (by decide+kernel)
theorem aw29:ToldOk (tAw 13):=ZM (L:=[tAw 29,d29]) (Za aw28<|Za d29_ok<|ZJ) ZK 100000 _ _ _ rfl rfl (by decide+kernel)
end Ev
end Go.Proofs.YtnbkfkbcpfkddaaGreatDoor
