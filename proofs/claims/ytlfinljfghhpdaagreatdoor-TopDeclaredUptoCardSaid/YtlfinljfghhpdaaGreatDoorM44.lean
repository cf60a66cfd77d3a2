/- Lemmas for a statement on the tops; conditions: as each says. -/
import Derived.Test.YtlfinljfghhpdaaGreatDoorM43
set_option linter.unusedVariables false
set_option linter.unusedSimpArgs false
set_option maxRecDepth 100000
set_option maxHeartbeats 4000000
namespace Go.Proofs.YtlfinljfghhpdaaGreatDoor
open Go Go.RowKit
namespace Ev
theorem aw20:ToldOk (tAw 45):=ZO (L:=[tAw 101,tAw 102,tAw 103]) (Za aw17<|Za aw18<|Za aw19<|ZK) ZL 100000 _ _ _ rfl rfl (by decide+kernel)
end Ev
namespace Ev
theorem aw27:ToldOk (tAw 47):=ZO (L:=[tAw 98,tAw 99,tAw 104,tAw 105,tAw 106,tAw 107,tAw 108]) (Za aw03<|Za aw10<|Za aw12<|Za aw23<|Za aw24<|Za aw25<|Za aw26<|ZK) ZL 100000 _ _ _ rfl rfl (by decide+kernel)
end Ev
namespace Ev
theorem aw28:ToldOk (tAw 21):=ZO (L:=[tAw 43,tAw 44,tAw 45,tAw 46,tAw 47]) (Za aw14<|Za aw15<|Za aw20<|Za aw21<|Za aw27<|ZK) ZL 100000 _ _ _ rfl rfl (by decide+kernel)
theorem aw29:ToldOk (tAw 11):=ZO (L:=[tAw 21,d29]) (Za aw28<|Za d29_ok<|ZK) ZL 100000 _ _ _ rfl rfl (by decide+kernel)
end Ev
end Go.Proofs.YtlfinljfghhpdaaGreatDoor
