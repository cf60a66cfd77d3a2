/- Lemmas for a statement on the tops; conditions: as each says. -/
import Derived.OwnWalk
import Derived.Laws.Bits64b
import Derived.Lib.EndianBits
import Derived.Deep.DeepCutAuto
import Derived.Laws.BitsAllLaws
import Derived.Deep.RegionHeld3
import Derived.Laws.Tables
import Derived.Laws.Rows
import Derived.Deep.WholeRow
import Derived.Test.YtlfinljfghhpdaaGreatDoorM4
set_option linter.unusedVariables false
set_option linter.unusedSimpArgs false
set_option maxRecDepth 100000
set_option maxHeartbeats 4000000
namespace Go.Proofs.YtlfinljfghhpdaaGreatDoor
open Go Go.RowKit
theorem Zio {w:World} {k j g:Nat} (h:g≠k)(v:Value):(w.setCell ⟨k,j,none⟩ v).heap[g]? =w.heap[g]?:=heap_setCell_other w ⟨k,j,none⟩ g v h
def u8V (c:UInt8):Value:= .int .u8 c.toNat
theorem ZuG (l:List UInt8):l.map u8V=(l.map fun c:UInt8=>(c.toNat:Int)).map (Value.int .u8):=by
 rw [List.map_map];rfl
theorem Znj (l:List UInt8):strOfNums (l.map fun c:UInt8=>(c.toNat:Int))=B l:=by
 unfold strOfNums B;congr 1
 rw [List.map_map];congr 1
 conv=>rhs;rw [←List.map_id l]
 exact List.map_congr_left fun c _=>by simp
theorem ZiH:(Tryz.prog.info? 5).map (fun i=>(i.zero,i.size,i.bytes))=some (some (.int .u8 0),1,1):=by kernel_rfl
theorem ZqU (w:World){base:Nat} {v:Value} {n:Nat} {l:List UInt8} (h:w.ownsRow base 5 1 v n (l.map u8V)):
 (convert 79 9 v).run Tryz.prog w= .ok (.string (B l)) w:=by
 rw [ZuG] at h;have:=ZdP (P:=Tryz.prog) 79 9 5 Tryz.underlying79 Tryz.underlying5 Tryz.underlying9 w h;rw [Znj] at this;exact this
theorem ZuI (w:World)(q:Value)(T:TypeId):∀j u,[q][j]? =some u→(w.alloc (.cells #[q] T)).cell? ((⟨w.heap.size,0,none⟩:Addr).add j)=some u:=by
 intro j u hu;have hadd:(⟨w.heap.size,0,none⟩:Addr).add j=⟨w.heap.size,j,none⟩:=by unfold Addr.add;split<;>simp_all
 rw [hadd,cell_of_row _ w.heap.size j _ T (0,0) (heap_alloc_new w _)];simpa using hu
section
variable {ops:Array Oper} {rest:List Oper} {o:Oper} {a:Act} {Q:Exit→Act→World→Prop}
theorem app_u8 (hgd:o.guard=none)(s x:Operand)(ho:o.op= .call {callee:= .builtin .append,args:=#[s,x],argTypes:=#[79,79]}) (base:Nat) (v:Value) (l:List UInt8) (hs:a.eval s=v) (W:World) (y:UInt8) (q:Value) (hq:q=u8V y)
 (hown:W.ownsRow base 5 1 v l.length (l.map u8V)) (hbase:base≤W.heap.size) (hlen:l.length≤35184372080000) (hx:a.eval x= .slice (some ⟨W.heap.size,0,none⟩) 1 1)
 (h:∀v' w',Hid (w'.ownsRow base 5 1 v' (l++[y]).length ((l++[y]).map u8V))→Below base W w'→wpList Tryz.prog ops Q rest (a.put o.dst v') w'):
 wpList Tryz.prog ops Q (o::rest) a (W.alloc (.cells #[q] 5)):=by
 obtain⟨i0,hi,iz0,iz1,iz2⟩:=info_parts ZiH;subst hq;refine wpList_append_own _ hgd s x 79 ho base 5 i0 _ 1 1 Tryz.underlying79 hi iz0 iz1 iz2 rfl (by decide) v l.length _ hs (hown.alloc _) ⟨W.heap.size,0,none⟩ 1 1 [u8V y] hx rfl (ZuI W _ _) ?_ (by unfold maxLen;omega) (by omega) (by simp;omega) ?_
 · intro u hu;simp only [List.mem_singleton] at hu;subst hu;rfl
 · intro v6 w6 hown6 hg6 _;refine h v6 w6 (Lib.hid ?_) (Z3 ((Below.refl _ W).alloc hbase _) (hown.alloc _) hg6 (by simp;omega) (Nat.le_refl _));rw [List.length_append,List.map_append];exact hown6
end
theorem Zdc (e a:Int)(h:e=0)(w:World):
 Calls Tryz.prog 10 #[.agg #[.int .i64 e,.int .i64 a]] w fun e w'=>e= .returned (.bool false)∧Below w.heap.size w w':=by
 subst h;go_enter Tryz.func10,Tryz.ntmps10
 go_wp2_with fail
 go_ret
 exact⟨rfl,(Below.refl _ w).alloc (Nat.le_refl _) _⟩
theorem Zjn (e a:Int)(h:e≠0)(w:World):
 Calls Tryz.prog 10 #[.agg #[.int .i64 e,.int .i64 a]] w fun e w'=>e= .returned (.bool true)∧Below w.heap.size w w':=by
 have h1:(e==0)=false:=by simpa using h
 have h2:(e !=0)=true:=by simpa using h
 go_enter Tryz.func10,Tryz.ntmps10
 go_wp2_with fail
 go_ret
 exact⟨rfl,(Below.refl _ w).alloc (Nat.le_refl _) _⟩
end Go.Proofs.YtlfinljfghhpdaaGreatDoor
namespace Go.Proofs.YtlfinljfghhpdaaGreatDoor
open Go
structure Fr where
 id:List UInt8
 st:UInt8
 fm:UInt8
 grp:UInt8
 body:List UInt8
 at_:Int
end Go.Proofs.YtlfinljfghhpdaaGreatDoor
namespace Go.Proofs.YtlfinljfghhpdaaGreatDoor
open Go Go.RowKit
theorem getB (t:List UInt8)(i:Nat)(h:i<t.length):(B t)[i]'(by rw [Zy];exact h)=t[i]:=by simp [B];rfl
theorem listB (l:List UInt8):(B l).toList=l:=by rw [ByteArray.toList_eq,ZQ]
def six (f:Fr):Array Value:=#[.string (B f.id),.int .u8 f.st.toNat,.int .u8 f.fm.toNat,.int .u8 f.grp.toNat,.string (B f.body),.int .i64 f.at_]
def Bx (w:World)(g:Nat)(cs:Array Value)(T:TypeId):Prop:=w.heap[g]? =some (.cells cs T (0,0))
section
variable {w w':World} {g:Nat} {cs:Array Value} {T:TypeId}
theorem Bx.new (w:World)(cs:Array Value)(T:TypeId):Bx (w.alloc (.cells cs T)) w.heap.size cs T:=heap_alloc_new w _
theorem Bx.lt (h:Bx w g cs T):g<w.heap.size:=(Array.getElem?_eq_some_iff.1 h).1
theorem Bx.below (h:Bx w g cs T)(hb:Below w.heap.size w w'):Bx w' g cs T:=(hb.block g (Bx.lt h)).trans h
theorem Bx.but {C:Nat} (h:Bx w g cs T)(hb:But C w.heap.size w w')(hC:g≠C):Bx w' g cs T:=(hb.block g (Bx.lt h) hC).trans h
theorem Bx.alloc (h:Bx w g cs T)(o:Obj):Bx (w.alloc o) g cs T:=h.below ((Below.refl _ _).alloc (Nat.le_refl _) _)
theorem Bx.set {k:Nat} (h:Bx w g cs T)(hk:g≠k)(j:Nat)(v:Value):Bx (w.setCell ⟨k,j,none⟩ v) g cs T:=(Zio hk v).trans h
theorem Bx.cell (h:Bx w g cs T)(j:Nat):w.cell? ⟨g,j,none⟩=cs[j]?:=cell_of_row _ g j _ _ (0,0) h
theorem Bx.put (h:Bx w g cs T)(j:Nat)(v:Value):Bx (w.setCell ⟨g,j,none⟩ v) g (cs.setIfInBounds j v) T:=heap_setCell_same w g j _ _ v h
theorem Bx.free (h:Bx w g cs T)(j:Nat):w.frozen? ⟨g,j,none⟩=false:=frozen_of_row _ g j _ _ h
end
def three (v:Int)(rev fl:UInt8):Array Value:=#[.int .i64 v,.int .u8 rev.toNat,.int .u8 fl.toNat]
def Zal {α:Type} (f:α→List Value)(B:Nat)(w:World)(v:Value)(l:List α):Prop:=
 (l=[]∧v= .slice none 0 0)∨∃bk c:Nat,l≠[]∧v= .slice (some ⟨bk,0,none⟩) l.length c∧l.length≤c∧B≤bk∧bk<w.heap.size∧∀j u,(l.flatMap f)[j]? =some u→w.cell? ⟨bk,j,none⟩=some u
section
variable {α:Type} {m:Nat} {f:α→List Value} {B:Nat} {w w':World} {v:Value} {l:List α}
theorem Zal.below (h:Zal f B w v l)(hb:Below w.heap.size w w'):Zal f B w' v l:=by
 rcases h with h|⟨bk,c,h0,h1,h2,h5,h3,h4⟩
 · exact .inl h
 · exact .inr ⟨bk,c,h0,h1,h2,h5,Nat.lt_of_lt_of_le h3 hb.size,fun j u hu=>(hb.cell (p:=⟨bk,j,none⟩) h3).trans (h4 j u hu)⟩
theorem Zal.but {C:Nat} (h:Zal f B w v l)(hb:But C w.heap.size w w')(hC:C<B):Zal f B w' v l:=by
 rcases h with h|⟨bk,c,h0,h1,h2,h5,h3,h4⟩
 · exact .inl h
 · exact .inr ⟨bk,c,h0,h1,h2,h5,Nat.lt_of_lt_of_le h3 hb.size,fun j u hu=>(hb.cell (p:=⟨bk,j,none⟩) h3 (by show bk≠C;omega)).trans (h4 j u hu)⟩
theorem Zal.low {B':Nat} (h:Zal f B w v l)(hB:B'≤B):Zal f B' w v l:=by
 rcases h with h|⟨bk,c,h0,h1,h2,h5,h3,h4⟩
 · exact .inl h
 · exact .inr ⟨bk,c,h0,h1,h2,by omega,h3,h4⟩
theorem Zal.len (h:Zal f B w v l):∃A c,v= .slice A l.length c∧l.length≤c:=by
 rcases h with⟨h,h1⟩|⟨bk,c,h0,h1,h2,_⟩
 · subst h;exact⟨none,0,h1,Nat.le_refl _⟩
 · exact⟨_,c,h1,h2⟩
end
namespace InS
end InS
theorem ZmK {P:Program} {fn:Func} {t q:Tmp} {ty2:TypeId} (h:fn.results=#[.tmp t,.cell q ty2])(tmps:Array Value)(w:World)(k:Nat)(T2:TypeId)(cs2:Array Value)(fr2:Nat×Nat)(d2:TypeDesc)(u:Value)
 (ht:tmps.getD t undef=u) (hq:tmps.getD q undef= .pointer (some ⟨k,0,none⟩)) (hk:w.heap[k]? =some (.cells cs2 T2 fr2))
 (hu2:P.underlying ty2=some d2) (hd2:(match d2 with| .struct _| .array _ _=>true|_=>false)=true) (hi2:(P.info? ty2).map (·.size)=some cs2.size):
 (results fn tmps).run P w= .ok (.tuple #[u,.agg cs2]) w:=by
 have ht':tmps[t]?.getD undef=u:=by simpa using ht
 have hq':tmps[q]?.getD undef= .pointer (some ⟨k,0,none⟩):=by simpa using hq
 simp [results,h,ht',hq',asAddr,run_loadVar_row w k T2 ty2 cs2 fr2 d2 hk hu2 hd2 hi2]
theorem Zqw {B:Nat} {a w:World} (h:Below B a w):Below B a w.drew:=below_drewN h 1
theorem ZdL {w:World} {g:Nat} {T:TypeId} {x0 x1:Value} (h:Bx w g #[x0,x1] T)(a b:Value):Bx ((w.setCell ⟨g,0,none⟩ a).setCell ⟨g,1,none⟩ b) g #[a,b] T:=by
 have h0:Bx (w.setCell ⟨g,0,none⟩ a) g #[a,x1] T:=h.put 0 a;exact h0.put 1 b
theorem Zal.set {α:Type} {f:α→List Value} {B:Nat} {w:World} {v:Value} {l:List α} (h:Zal f B w v l){g:Nat} (hg:g<B)(j:Nat)(u:Value):Zal f B (w.setCell ⟨g,j,none⟩ u) v l:=by
 rcases h with h|⟨bk,c,h0,h1,h2,h5,h3,h4⟩
 · exact .inl h
 · exact .inr ⟨bk,c,h0,h1,h2,h5,by simpa using h3,fun i x hx=>by rw [World.cell?_setCell_other _ _ _ _ (fun e=>by injection e with e;omega)];exact h4 i x hx⟩
theorem setRow_other (w:World)(g k:Nat)(cs:Array Value)(h:k≠g):(w.setRow g cs).heap[k]? =w.heap[k]?:=by
 unfold World.setRow;rw [Array.getElem?_modify,if_neg (fun e=>h e.symm)]
theorem size_setRow (w:World)(g:Nat)(cs:Array Value):(w.setRow g cs).heap.size=w.heap.size:=by
 unfold World.setRow;simp
theorem Bx.row {w:World} {g:Nat} {old:Array Value} {T:TypeId} (h:Bx w g old T)(cs:Array Value):Bx (w.setRow g cs) g cs T:=setRow_heap w g old cs T (0,0) h
theorem Bx.rowO {w:World} {g k:Nat} {old:Array Value} {T:TypeId} (h:Bx w g old T)(hk:g≠k)(cs:Array Value):Bx (w.setRow k cs) g old T:=(setRow_other w k g cs hk).trans h
theorem Zqx {B g:Nat} {a w:World} (h:Below B a w)(hg:B≤g)(cs:Array Value):Below B a (w.setRow g cs):=
 ⟨h.os,h.tape,h.output,by rw [size_setRow];exact h.size,fun k hk=>(setRow_other w g k cs (by omega)).trans (h.block k hk)⟩
theorem ZqC {C:Nat} {w:World} (cs:Array Value):But C w.heap.size w (w.setRow C cs):=
 ⟨rfl,rfl,rfl,by rw [size_setRow];exact Nat.le_refl _,fun k _ hc=>setRow_other w C k cs hc⟩
end Go.Proofs.YtlfinljfghhpdaaGreatDoor
namespace Go.Proofs.YtlfinljfghhpdaaGreatDoor
open Go
def cut2:List UInt8→Option (List UInt8×List UInt8)
 |x::y::r=>if x=0∧y=0 then some ([],r) else match cut2 r with|none=>none|some q=>some (x::y::q.1,q.2)
 |_=>none
end Go.Proofs.YtlfinljfghhpdaaGreatDoor
