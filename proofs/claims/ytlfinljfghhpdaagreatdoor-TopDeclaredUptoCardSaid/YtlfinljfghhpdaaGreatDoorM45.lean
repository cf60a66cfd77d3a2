/- Lemmas for a statement on the tops; conditions: as each says. -/
import Derived.Test.YtlfinljfghhpdaaGreatDoorM37
import Derived.Test.YtlfinljfghhpdaaGreatDoorM44
set_option linter.unusedVariables false
set_option linter.unusedSimpArgs false
set_option maxRecDepth 100000
set_option maxHeartbeats 1000000
namespace Go.Proofs.YtlfinljfghhpdaaGreatDoor
open Go Go.RowKit
structure Wk (w:World):Prop where
 grd:Grd w
 st:Zff w
theorem Wk.below {w w':World} (h:Wk w)(hb:Below w.heap.size w w'):Wk w' where
 grd:=h.grd.below hb
 st:=fun j u hu=>by
  have hc:=h.st j u hu;have hlt:0<w.heap.size:=by
   simp only [World.cell?] at hc;cases hq:w.heap[0]? with
   |none=>rw [hq] at hc;cases hc
   |some o=>exact(Array.getElem?_eq_some_iff.1 hq).1
  exact(hb.cell (p:=⟨0,0+j,none⟩) hlt).trans hc
theorem Zqu {f:Nat} (h:Ev.ToldOk (Ev.tAw f))(w:World)(hG:Ev.Gl w):Calls Tryz.prog f #[] w fun e w'=>e= .returned (.bool true)∧Below w.heap.size w w':=Ev.aw_run h w hG
theorem Aw_top (w:World)(hG:Ev.Gl w):Calls Tryz.prog 4 #[] w fun e w'=>e= .returned (.bool true)∧Below w.heap.size w w':=by
 have h:=Zqu Ev.aw29 w hG;go_enter Tryz.func4,Tryz.ntmps4
 go_wp2_with (go_at_call 11;refine h.mono ?_;clear h;rintro e w1 ⟨rfl,hb1⟩;have B1:=Lib.hid hb1;clear hb1)
 go_ret
 exact⟨rfl,B1.out⟩
end Go.Proofs.YtlfinljfghhpdaaGreatDoor
