/- Lemmas for a statement on the tops; conditions: as each says. -/
import Derived.Deep.CutBlock
import Derived.Test.YtnbkfkbcpfkddaaGreatDoorM14
set_option linter.unusedVariables false
set_option linter.unusedSimpArgs false
set_option maxRecDepth 100000
set_option maxHeartbeats 20000000
namespace Go.Proofs.YtnbkfkbcpfkddaaGreatDoor
open Go Go.RowKit
def OwS (w0 wx:World)(v:Value)(l:List (List UInt8)):Prop:=wx.ownsRow (w0.heap.size+2) 9 1 v l.length (l.map sV)
theorem OwS.below {w0 w w':World} {v:Value} {l:List (List UInt8)} (h:OwS w0 w v l)(hb:Below w.heap.size w w'):OwS w0 w' v l:=Zo h hb
end Go.Proofs.YtnbkfkbcpfkddaaGreatDoor
