/- Lemmas for a statement on the tops; conditions: as each says. -/
import Derived.Deep.CutBlock
import Derived.Laws.Tables
import Derived.Laws.Rows
import Derived.Deep.WholeRow
import Derived.Test.YtlglfmbccihopaaGreatDoorM12
set_option linter.unusedVariables false
set_option linter.unusedSimpArgs false
set_option maxRecDepth 100000
set_option maxHeartbeats 20000000
namespace Go.Proofs.YtlglfmbccihopaaGreatDoor
open Go Go.RowKit
def OwS (w0 wx:World)(v:Value)(l:List (List UInt8)):Prop:=wx.ownsRow (w0.heap.size+2) 9 1 v l.length (l.map sV)
theorem OwS.below {w0 w w':World} {v:Value} {l:List (List UInt8)} (h:OwS w0 w v l)(hb:Below w.heap.size w w'):OwS w0 w' v l:=ZE h hb
theorem Zpk (a:Option Addr)(n c:Nat)(hn:n=0)(w:World):
 Calls Tryz.prog 20 #[.slice a n c] w fun e w'=>e= .returned (.string ⟨#[]⟩)∧w=w':=by
 subst hn;have hj:=Tryz.strings_Join_none a c ⟨#[]⟩;go_enter Tryz.func20,Tryz.ntmps20
 go_wp2_with (go_at_call 34;refine(hj _).mono ?_;rintro e w1 ⟨rfl,rfl⟩)
 go_ret
 exact⟨rfl,rfl⟩
theorem ZgE {base:Nat} {v:Value} {l:List (List UInt8)} {w:World} (h:w.ownsRow base 9 1 v l.length (l.map sV))(hf:l.flatten.length≤35184372089000)(hn:l.length≤35184372089000):
 Calls Tryz.prog 20 #[v] w fun e w'=>e= .returned (.string (B l.flatten))∧Below w.heap.size w w':=by
 by_cases hl:l=[]
 · subst hl;obtain⟨_,A,c,rfl,_⟩:=ZcP h;refine(Zpk A _ c rfl w).mono ?_;rintro e w' ⟨rfl,rfl⟩;exact⟨rfl,Below.refl _ _⟩
 · exact SJoin h hl hf hn
theorem setRow_other (w:World)(g k:Nat)(cs:Array Value)(h:k≠g):(w.setRow g cs).heap[k]? =w.heap[k]?:=by
 unfold World.setRow;rw [Array.getElem?_modify,if_neg (fun e=>h e.symm)]
theorem size_setRow (w:World)(g:Nat)(cs:Array Value):(w.setRow g cs).heap.size=w.heap.size:=by
 unfold World.setRow;simp
theorem Bx.row {w:World} {g:Nat} {old:Array Value} {T:TypeId} (h:Bx w g old T)(cs:Array Value):Bx (w.setRow g cs) g cs T:=setRow_heap w g old cs T (0,0) h
theorem Bx.rowO {w:World} {g k:Nat} {old:Array Value} {T:TypeId} (h:Bx w g old T)(hk:g≠k)(cs:Array Value):Bx (w.setRow k cs) g old T:=(setRow_other w k g cs hk).trans h
theorem Zef {B g:Nat} {a w:World} (h:Below B a w)(hg:B≤g)(cs:Array Value):Below B a (w.setRow g cs):=
 ⟨h.os,h.tape,h.output,by rw [size_setRow];exact h.size,fun k hk=>(setRow_other w g k cs (by omega)).trans (h.block k hk)⟩
theorem Zj0 {C:Nat} {w:World} (cs:Array Value):But C w.heap.size w (w.setRow C cs):=
 ⟨rfl,rfl,rfl,by rw [size_setRow];exact Nat.le_refl _,fun k _ hc=>setRow_other w C k cs hc⟩
end Go.Proofs.YtlglfmbccihopaaGreatDoor
