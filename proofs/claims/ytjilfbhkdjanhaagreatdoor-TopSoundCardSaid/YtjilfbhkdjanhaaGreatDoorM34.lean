/- Lemmas for a statement on the tops; conditions: as each says. -/
import Derived.Test.YtjilfbhkdjanhaaGreatDoorM33
set_option linter.all false
set_option maxRecDepth 100000
set_option maxHeartbeats 1000000
open Go.Proofs.Tryz
namespace Go.Proofs.YtjilfbhkdjanhaaGreatDoor
open Go Go.RowKit
def Zfy{P:Program}{ops:Array Oper}{rest:List Oper}{o:Oper}{a:Act}{w:World}{Q:Exit->Act->World->Prop}(q:o.guard=none)(ty:TypeId)(x y:Operand)(D:o.op=.store ty x y)
 (g:Nat) (Z T:Array Value) (C:a.eval x=.pointer (some ⟨g,0,none⟩)) (u:a.eval y=.agg T) (hb:Bx w g Z ty) (I:(P.info? ty).map (·.size)=some T.size) (j:Z.size=T.size) (J:T.all (·.oneCell')=true)
 (h:∀W,Bx W g T ty->But g w.heap.size w W->wpList P ops Q rest (a.put o.dst undef) W):wpList P ops Q (o::rest) a w:=
 wpList_store_row q ty x y D g T C u ty Z hb I j J (h _ (hb.row T) (ZsR T))
def ZxB{P:Program}{ops:Array Oper}{rest:List Oper}{o:Oper}{a:Act}{w:World}{Q:Exit->Act->World->Prop}(q:o.guard=none)(ty:TypeId)(x y:Operand)(D:o.op=.store ty x y)
 (Z T:Array Value) (C:a.eval x=.pointer (some ⟨w.heap.size,0,none⟩)) (u:a.eval y=.agg T) (I:(P.info? ty).map (·.size)=some T.size) (j:Z.size=T.size) (J:T.all (·.oneCell')=true)
 (h:∀W,Bx W w.heap.size T ty->Below w.heap.size w W->wpList P ops Q rest (a.put o.dst undef) W):wpList P ops Q (o::rest) a (w.alloc (.cells Z ty)):=
 wpList_store_row q ty x y D w.heap.size T C u ty Z (Bx.new w Z ty) I j J (h _ ((Bx.new w Z ty).row T) (Zg5 ((Below.refl _ _).alloc (Nat.le_refl _) _) (Nat.le_refl _) T))
structure PgSt (w wx:World)(F:Nat)(OA:Array Value):Prop where
 o:Bx wx w.heap.size OA 25
 z:Bx wx (w.heap.size+1) (T67 0 0 0 0 (.slice none 0 0) []) 72
 f:Bx wx F #[.int .i64 0,.int .i64 0] 34
 low:Below w.heap.size w wx
 hF:w.heap.size+1<F
def PgSt.below{w wx wy:World}{F:Nat}{OA:Array Value}(h:PgSt w wx F OA)(hb:Below wx.heap.size wx wy):PgSt w wy F OA:=⟨h.o.below hb,h.z.below hb,h.f.below hb,h.low.trans (hb.mono h.low.size),h.hF⟩
def PgSt.new(w:World)(OA:Array Value):PgSt w (((w.alloc (.cells OA 25)).alloc (.cells (T67 0 0 0 0 (.slice none 0 0) []) 72)).alloc (.cells #[.int .i64 0,.int .i64 0] 34)) (w.heap.size+1+1) OA:=by
 refine⟨((Bx.new w _ _).alloc _).alloc _,?_,?_,(((Below.refl _ _).alloc (Nat.le_refl _) _).alloc (by simp) _).alloc (by simp;omega) _,by omega⟩
 ·have:=(Bx.new (w.alloc (.cells OA 25)) (T67 0 0 0 0 (.slice none 0 0) []) 72).alloc (.cells #[.int .i64 0,.int .i64 0] 34);rw[World.size_alloc] at this;exact this
 ·have:=Bx.new ((w.alloc (.cells OA 25)).alloc (.cells (T67 0 0 0 0 (.slice none 0 0) []) 72)) #[.int .i64 0,.int .i64 0] 34;rw[World.size_alloc,World.size_alloc] at this;exact this
structure PhSt (w wx:World)(F C1:Nat)(OA HA:Array Value):Prop where
 s:PgSt w wx F OA
 h:Bx wx C1 HA 41
def PhSt.below{w wx wy:World}{F q:Nat}{OA j:Array Value}(h:PhSt w wx F q OA j)(hb:Below wx.heap.size wx wy):PhSt w wy F q OA j:=⟨h.s.below hb,h.h.below hb⟩
def PhSt.cells{w wx:World}{F j:Nat}{a0 D C y b0 b1 u q:Value}(h:PhSt w wx F j #[a0,D,C,y] #[b0,b1,u,q]):
 (wx.cell? ⟨w.heap.size,0,none⟩=some a0/\wx.cell? ⟨w.heap.size,1,none⟩=some D/\wx.cell? ⟨w.heap.size,2,none⟩=some C/\wx.cell? ⟨w.heap.size,3,none⟩=some y)/\
 (wx.cell? ⟨j,0,none⟩=some b0/\wx.cell? ⟨j,1,none⟩=some b1/\wx.cell? ⟨j,2,none⟩=some u/\wx.cell? ⟨j,3,none⟩=some q):=
 ⟨⟨h.s.o.cell 0,h.s.o.cell 1,h.s.o.cell 2,h.s.o.cell 3⟩,h.h.cell 0,h.h.cell 1,h.h.cell 2,h.h.cell 3⟩
def PgRel(q:World)(v:Nat)(rev fl:UInt8)(j:List UInt8)(u:List It)(i:Value)(wr:World):Prop:=
 ∃(k:Nat) (xs:List (It×Value)) (vl:Value),k<=u.length/\i=.int .i64 k/\Hid (xs.map (·.1)=u.take k)/\Below q.heap.size q wr/\Bx wr q.heap.size (T67 0 v rev fl vl j) 72/\
  wr.ownsRow (q.heap.size+1) 137 7 vl xs.length (xs.flatMap itV)/\(xs=[]->vl=.slice none 0 0)/\Hid (∀x∈xs,Zk piL (q.heap.size+1) wr x.2 x.1.ps)
structure RdSt (wr wx:World)(FA IA:Array Value):Prop where
 fr:Bx wx wr.heap.size FA 114
 it:Bx wx (wr.heap.size+1) IA 137
 low:Below wr.heap.size wr wx
def RdSt.below{wr wx wy:World}{q j:Array Value}(h:RdSt wr wx q j)(hb:Below wx.heap.size wx wy):RdSt wr wy q j:=⟨h.fr.below hb,h.it.below hb,h.low.trans (hb.mono h.low.size)⟩
def RdSt.alloc{wr wx:World}{q j:Array Value}(h:RdSt wr wx q j)(o:Obj):RdSt wr (wx.alloc o) q j:=h.below ((Below.refl _ _).alloc (Nat.le_refl _) _)
def RdSt.put{wr wx:World}{u q:Array Value}(h:RdSt wr wx u q)(j:Nat)(v:Value):RdSt wr (wx.setCell ⟨wr.heap.size+1,j,none⟩ v) u (q.setIfInBounds j v):=
 ⟨h.fr.set (by omega) j v,h.it.put j v,h.low.setCell (by show wr.heap.size<=wr.heap.size+1;omega) v⟩
def RdSt.new(wr:World)(q j:Array Value):RdSt wr ((wr.alloc (.cells q 114)).alloc (.cells j 137)) q j:=
 ⟨(Bx.new wr _ _).alloc _,by have:=Bx.new (wr.alloc (.cells q 114)) j 137;rw[World.size_alloc] at this;exact this,((Below.refl _ _).alloc (Nat.le_refl _) _).alloc (by simp) _⟩
def RdSt.cells{wr wx:World}{V U O N L J I D C y u q j:Value}(h:RdSt wr wx #[V,U,O,N,L,J] #[I,D,C,y,u,q,j]):
 (wx.cell? ⟨wr.heap.size,0,none⟩=some V/\wx.cell? ⟨wr.heap.size,1,none⟩=some U/\wx.cell? ⟨wr.heap.size,2,none⟩=some O/\wx.cell? ⟨wr.heap.size,3,none⟩=some N/\wx.cell? ⟨wr.heap.size,4,none⟩=some L/\wx.cell? ⟨wr.heap.size,5,none⟩=some J)/\
 (wx.cell? ⟨wr.heap.size+1,0,none⟩=some I/\wx.cell? ⟨wr.heap.size+1,1,none⟩=some D/\wx.cell? ⟨wr.heap.size+1,2,none⟩=some C/\wx.cell? ⟨wr.heap.size+1,3,none⟩=some y/\wx.cell? ⟨wr.heap.size+1,4,none⟩=some u/\wx.cell? ⟨wr.heap.size+1,5,none⟩=some q/\wx.cell? ⟨wr.heap.size+1,6,none⟩=some j)/\
 wx.frozen? ⟨wr.heap.size+1,4,none⟩=false/\wx.frozen? ⟨wr.heap.size+1,6,none⟩=false:=
 ⟨⟨h.fr.cell 0,h.fr.cell 1,h.fr.cell 2,h.fr.cell 3,h.fr.cell 4,h.fr.cell 5⟩,⟨h.it.cell 0,h.it.cell 1,h.it.cell 2,h.it.cell 3,h.it.cell 4,h.it.cell 5,h.it.cell 6⟩,h.it.free 4,h.it.free 6⟩
def Zoi{q wr W L:World}{v:Nat}{rev fl:UInt8}{j:List UInt8}{u:List It}{k:Nat}{xs:List (It×Value)}{vl C s:Value}{it:It}(Z:u[k]?=some it)(N:xs.map (·.1)=u.take k)
 (Y:Below q.heap.size q wr) (U:Bx wr q.heap.size (T67 0 v rev fl vl j) 72) (I:wr.ownsRow (q.heap.size+1) 137 7 vl xs.length (xs.flatMap itV)) (y:xs=[]->vl=.slice none 0 0)
 (O:∀x∈xs,Zk piL (q.heap.size+1) wr x.2 x.1.ps) (J:Below wr.heap.size wr W) (D:Zk piL (q.heap.size+1) W s it.ps)
 (HO:L.ownsRow (q.heap.size+1) 137 7 C (xs++[(it,s)]).length ((xs++[(it,s)]).flatMap itV)) (hb:Below (q.heap.size+1) W L) (hg:W.grownBy L vl.ownBlock):
 PgRel q v rev fl j u (.int .i64 ((k+1:Nat):Int)) (L.setCell ⟨q.heap.size,4,none⟩ C):=by
 have ac:k<u.length:=(List.getElem?_eq_some_iff.1 Z).1;have ad:=J.size;have V:Bx L q.heap.size (T67 0 v rev fl vl j) 72:=(hb.block _ (by omega)).trans (U.below J);have X:=ZB I J;refine⟨k+1,xs++[(it,s)],C,by omega,rfl,QQ ?_,?_,?_,?_,λh=>absurd h (by simp),QQ ?_⟩
 ·rw[List.map_append,N,List.take_add_one,Z];rfl
 ·exact((Y.trans (J.mono Y.size)).trans (hb.mono (by omega))).setCell (Nat.le_refl _) _
 ·have:=V.put 4 C;rw[t67_it] at this;exact this
 ·exact ZdX HO ((But.refl q.heap.size _ _).setCell (p:=⟨q.heap.size,4,none⟩) (.inr rfl) C) (Nat.lt_succ_self _)
 ·intro x hx;rcases List.mem_append.1 hx with h|h
  ·exact Zk.set (Zoj X y hg ((O x h).below J)) (Nat.lt_succ_self _) 4 C
  ·simp only[List.mem_singleton] at h;subst h;exact Zk.set (Zoj X y hg D) (Nat.lt_succ_self _) 4 C
def Zfo{w:World}{base:Nat}{e:TypeId}{size:Nat}{v:Value}{n:Nat}{xs:List Value}(h:w.ownsRow base e size v n xs):∃A n c,v=.slice A n c:=by obtain⟨_,A,c,h,_⟩:=ZaZ h;exact⟨A,_,c,h⟩
def Zv5{α:Type}{f:α->List Value}{B0:Nat}{w:World}{v:Value}{l:List α}(h:Zk f B0 w v l):∃A n c,v=.slice A n c:=by obtain⟨A,c,h,_⟩:=h.len;exact⟨A,_,c,h⟩
structure PtSt (w wx:World)(H:Nat)(T HA:Array Value):Prop where
 t:Bx wx w.heap.size T 72
 f:Bx wx (w.heap.size+1) #[.int .i64 0,.int .i64 0] 34
 h:Bx wx H HA 41
 low:Below w.heap.size w wx
 hH:w.heap.size+1<H
def PtSt.below{w wx wy:World}{H:Nat}{T j:Array Value}(h:PtSt w wx H T j)(hb:Below wx.heap.size wx wy):PtSt w wy H T j:=⟨h.t.below hb,h.f.below hb,h.h.below hb,h.low.trans (hb.mono h.low.size),h.hH⟩
def PtSt.low3{w wx wy:World}{H:Nat}{T j:Array Value}(h:PtSt w wx H T j)(hb:Below (H+1) wx wy):PtSt w wy H T j:=
 ⟨(hb.block _ (by have:=h.hH;omega)).trans h.t,(hb.block _ (by have:=h.hH;omega)).trans h.f,(hb.block _ (by omega)).trans h.h,h.low.trans (hb.mono (by have:=h.hH;omega)),h.hH⟩
def PtSt.alloc{w wx:World}{H:Nat}{T j:Array Value}(h:PtSt w wx H T j)(o:Obj):PtSt w (wx.alloc o) H T j:=h.below ((Below.refl _ _).alloc (Nat.le_refl _) _)
def PtSt.put{w wx:World}{H:Nat}{T q:Array Value}(h:PtSt w wx H T q)(j:Nat)(v:Value):PtSt w (wx.setCell ⟨H,j,none⟩ v) H T (q.setIfInBounds j v):=
 ⟨h.t.set (by have:=h.hH;omega) j v,h.f.set (by have:=h.hH;omega) j v,h.h.put j v,h.low.setCell (by show w.heap.size<=H;have:=h.hH;omega) v,h.hH⟩
def PtSt.new(w:World)(T j:Array Value):PtSt w (((w.alloc (.cells T 72)).alloc (.cells #[.int .i64 0,.int .i64 0] 34)).alloc (.cells j 41)) (w.heap.size+1+1) T j:=by
 refine⟨((Bx.new w _ _).alloc _).alloc _,?_,?_,(((Below.refl _ _).alloc (Nat.le_refl _) _).alloc (by simp) _).alloc (by simp;omega) _,by omega⟩
 ·have:=(Bx.new (w.alloc (.cells T 72)) #[.int .i64 0,.int .i64 0] 34).alloc (.cells j 41);rw[World.size_alloc] at this;exact this
 ·have:=Bx.new ((w.alloc (.cells T 72)).alloc (.cells #[.int .i64 0,.int .i64 0] 34)) j 41;rw[World.size_alloc,World.size_alloc] at this;exact this
def PtSt.cells{w wx:World}{H:Nat}{T:Array Value}{b0 b1 q j:Value}{I D C y u:Value}(h:PtSt w wx H T #[b0,b1,q,j])(U:T[1]?=some I)(O:T[2]?=some D)(N:T[3]?=some C)(L:T[4]?=some y)(J:T[5]?=some u):
 (wx.cell? ⟨w.heap.size,1,none⟩=some I/\wx.cell? ⟨w.heap.size,2,none⟩=some D/\wx.cell? ⟨w.heap.size,3,none⟩=some C/\wx.cell? ⟨w.heap.size,4,none⟩=some y/\wx.cell? ⟨w.heap.size,5,none⟩=some u)/\
 (wx.cell? ⟨H,0,none⟩=some b0/\wx.cell? ⟨H,1,none⟩=some b1/\wx.cell? ⟨H,2,none⟩=some q/\wx.cell? ⟨H,3,none⟩=some j/\wx.frozen? ⟨H,3,none⟩=false)/\
 (wx.cell? ⟨w.heap.size+1,0,none⟩=some (.int .i64 0)/\wx.cell? ⟨w.heap.size+1,1,none⟩=some (.int .i64 0)/\wx.frozen? ⟨w.heap.size+1,0,none⟩=false/\wx.frozen? ⟨w.heap.size+1,1,none⟩=false)/\H<wx.heap.size:=
 ⟨⟨by rw[h.t.cell 1];exact U,by rw[h.t.cell 2];exact O,by rw[h.t.cell 3];exact N,by rw[h.t.cell 4];exact L,by rw[h.t.cell 5];exact J⟩,
  ⟨h.h.cell 0,h.h.cell 1,h.h.cell 2,h.h.cell 3,h.h.free 3⟩,⟨h.f.cell 0,h.f.cell 1,h.f.free 0,h.f.free 1⟩,h.h.lt⟩
structure PpSt (w wx:World)(F K:Nat)(OA T FA:Array Value):Prop where
 s:PgSt w wx F OA
 t:Bx wx K T 72
 e:Bx wx (K+1) FA 34
 lt:F<K
def PpSt.below{w wx wy:World}{F K:Nat}{OA T j:Array Value}(h:PpSt w wx F K OA T j)(hb:Below wx.heap.size wx wy):PpSt w wy F K OA T j:=⟨h.s.below hb,h.t.below hb,h.e.below hb,h.lt⟩
def PpSt.put2{w wx:World}{F K:Nat}{OA T:Array Value}{x y:Value}(h:PpSt w wx F K OA T #[x,y])(a b:Value):PpSt w ((wx.setCell ⟨K+1,0,none⟩ a).setCell ⟨K+1,1,none⟩ b) F K OA T #[a,b]:=by
 have q:=h.lt;have j:=h.s.hF;exact⟨⟨(h.s.o.set (by omega) 0 a).set (by omega) 1 b,(h.s.z.set (by omega) 0 a).set (by omega) 1 b,(h.s.f.set (by omega) 0 a).set (by omega) 1 b,(h.s.low.setCell (by show w.heap.size<=K+1;omega) a).setCell (by show w.heap.size<=K+1;omega) b,j⟩,
  (h.t.set (by omega) 0 a).set (by omega) 1 b,Zal h.e a b,q⟩
def PpSt.butK{w wx wy:World}{F K:Nat}{OA T j q:Array Value}(h:PpSt w wx F K OA T q)(hb:But K wx.heap.size wx wy)(u:Bx wy K j 72):PpSt w wy F K OA j q:=by
 have C:=h.lt;have y:=h.s.hF;exact⟨⟨h.s.o.but hb (by omega),h.s.z.but hb (by omega),h.s.f.but hb (by omega),h.s.low.trans ((hb.mono h.s.low.size).below (by omega)),y⟩,u,h.e.but hb (by omega),C⟩
def PpSt.kind{w wx:World}{F K:Nat}{OA j:Array Value}{q k2:Int}{v:Nat}{rev fl:UInt8}{it:Value}{s:List UInt8}(h:PpSt w wx F K OA (T67 q v rev fl it s) j):PpSt w (wx.setCell ⟨K,0,none⟩ (.int .i64 k2)) F K OA (T67 k2 v rev fl it s) j:=by
 have:=h.t.put 0 (.int .i64 k2);rw[t67_kd] at this;exact h.butK ((But.refl K _ wx).setCell (p:=⟨K,0,none⟩) (.inr rfl) _) this
def PpSt.cells{w wx:World}{F K:Nat}{a0 y u q e0 j:Value}{T:Array Value}(h:PpSt w wx F K #[a0,y,u,q] T #[e0,j]):
 (wx.cell? ⟨w.heap.size,0,none⟩=some a0/\wx.cell? ⟨w.heap.size,1,none⟩=some y/\wx.cell? ⟨w.heap.size,2,none⟩=some u/\wx.cell? ⟨w.heap.size,3,none⟩=some q)/\
 (wx.cell? ⟨K+1,0,none⟩=some e0/\wx.cell? ⟨K+1,1,none⟩=some j/\wx.frozen? ⟨K+1,0,none⟩=false/\wx.frozen? ⟨K+1,1,none⟩=false)/\
 (wx.cell? ⟨F,0,none⟩=some (.int .i64 0)/\wx.cell? ⟨F,1,none⟩=some (.int .i64 0)/\wx.frozen? ⟨F,0,none⟩=false/\wx.frozen? ⟨F,1,none⟩=false):=
 ⟨⟨h.s.o.cell 0,h.s.o.cell 1,h.s.o.cell 2,h.s.o.cell 3⟩,⟨h.e.cell 0,h.e.cell 1,h.e.free 0,h.e.free 1⟩,h.s.f.cell 0,h.s.f.cell 1,h.s.f.free 0,h.s.f.free 1⟩
def Zac.but{B0 C:Nat}{w w':World}{v:Value}{l:List It}(h:Zac B0 w v l)(hb:But C w.heap.size w w')(j:C<B0):Zac B0 w' v l:=by
 obtain⟨xs,D,y,u⟩:=h;exact⟨xs,D,y.but hb j,λx q=>(u x q).but hb j⟩
def Zac.set{B0:Nat}{w:World}{v:Value}{l:List It}(h:Zac B0 w v l){g:Nat}(q:g<B0)(j:Nat)(u:Value):Zac B0 (w.setCell ⟨g,j,none⟩ u) v l:=by
 obtain⟨xs,I,D,C⟩:=h;exact⟨xs,I,D.set q j u,λx y=>(C x y).set q j u⟩
def Zji{B0:Nat}{w:World}{v:Value}{l:List It}(h:Zac B0 w v l):∃A n c,v=.slice A n c:=by obtain⟨A,c,h,_⟩:=h.len;exact⟨A,_,c,h⟩
def Zqg(b:ByteArray)(kd fb ai:Int)(det:Bool)(v:Nat)(rev fl:UInt8)(j:List UInt8)(au:List It)(w:World)
 (hk:kd=1\/kd=0/\∀wx,Below w.heap.size w wx->Calls prog 40 #[.string b] wx λe w'=>e=.returned (.tuple #[.int .i64 1,.bool true])/\Below wx.heap.size wx w')
 (hp:∀wx,Below w.heap.size w wx->Calls prog 41 #[.string b,.agg #[.int .i64 kd,.int .i64 fb,.bool det,.int .i64 ai]] wx λe w'=>∃vi,e=.returned (.tuple #[.agg (T67 0 v rev fl vi j),.agg #[.int .i64 0,.int .i64 0]])/\Zac wx.heap.size w' vi au/\Below wx.heap.size wx w'):
 Calls prog 15 #[.string b,.agg #[.int .i64 kd,.int .i64 fb,.bool det,.int .i64 ai]] w λe w'=>∃vi,e=.returned (.tuple #[.agg (T67 1 v rev fl vi j),.agg #[.int .i64 0,.int .i64 0]])/\Zac w.heap.size w' vi au/\Below w.heap.size w w':=by
 have ax:=λw=>ZG 0 0 rfl w;have S0:=QQ (PgSt.new w #[.int .i64 kd,.int .i64 fb,.bool det,.int .i64 ai]);rcases hk with rfl|⟨rfl,aw⟩
 ·go_enter func15,ntmps15
  go_upto_region 1 with fail
  generalize Y:(((w.alloc _).alloc _).alloc _)=W0;have J:Hid (PgSt w W0 (w.heap.size+1+1) _):=QQ (by rw[<-Y];exact S0.out);clear S0 Y;generalize w.heap.size+1+1=F at*;have C:=J.o.cell 0;have y:=J.o.cell 1;have u:=J.o.cell 2;have q:=J.o.cell 3;have hF:=J.hF;have S2:=J;clear J;clear y u q;go_upto_region 7 with fail
  go_upto_region 8 with(first
   |(refine Zh0 rfl 72 _ rfl (T67 0 0 0 0 (.slice none 0 0) []) (by kernel_rfl) ?_)
   |(refine Zfz rfl 72 _ _ rfl _ _ (T67 0 0 0 0 (.slice none 0 0) []) 34 rfl rfl (by kernel_rfl) rfl (Zbw _ _ _ _ _ _ rfl) λW3 b3 b4 b5=>?_;have S3:Hid (PpSt w W3 F _ _ _ _):=QQ ⟨S2.below b5,b3,b4,S2.f.lt⟩;clear b3 b4 b5;obtain⟨⟨C,y,u,q⟩,⟨e0,I,g0,D⟩,⟨U,O,h0,N⟩⟩:=S3.cells))
  generalize W0.heap.size=K at*;have X:=QQ (S3.put2 (.int .i64 5) (.int .i64 0));clear S3 S2 C y u q e0 I g0 D U O h0 N;generalize ((W3.setCell ⟨K+1,0,none⟩ (.int .i64 5)).setCell ⟨K+1,1,none⟩ (.int .i64 0))=W4 at*;have Z:=hp W4 X.s.low;have ac:=X.t.lt;have ab:=X.e.lt;have aQ:=X.lt;clear hp;obtain⟨⟨C,y,u,q⟩,⟨e0,I,g0,D⟩,⟨U,O,h0,N⟩⟩:=X.cells;go_upto_region 20 with(first
   |(go_at_call 41;refine Z.mono ?_;clear Z;rintro e w5 ⟨vi,rfl,hit,aa⟩;obtain⟨A,n,c,hv⟩:=Zji hit;subst hv;have S5:=QQ (X.below aa);have I5:=QQ hit;clear hit aa X C y u q e0 I g0 D U O h0 N)
   |(refine Zfy rfl 72 _ _ rfl K (T67 0 0 0 0 (.slice none 0 0) []) (T67 0 v rev fl (.slice A n c) j) rfl rfl S5.t (by kernel_rfl) rfl (Zbw _ _ _ _ _ _ rfl) λW6 b6 h6=>?_;have I6:=QQ (I5.but h6 ac);have S6:=QQ (S5.butK h6 b6);clear b6 h6 S5 I5;obtain⟨⟨C,y,u,q⟩,⟨e0,I,g0,D⟩,⟨U,O,h0,N⟩⟩:=S6.cells))
  have S7:=QQ (S6.put2 (.int .i64 0) (.int .i64 0));have I7:=QQ ((I6.set ab 0 (.int .i64 0)).set ab 1 (.int .i64 0));clear S6 I6 C y u q e0 I g0 D U O h0 N;generalize ((W6.setCell ⟨K+1,0,none⟩ (.int .i64 0)).setCell ⟨K+1,1,none⟩ (.int .i64 0))=W7 at*;obtain⟨⟨C,y,u,q⟩,⟨e0,I,g0,D⟩,⟨U,O,h0,N⟩⟩:=S7.cells;go_upto_region 22 with(go_at_call 8;refine MR (ax _) λw8 L=>?_;have S8:=QQ (S7.below L);have I8:=QQ (I7.below L);clear L S7 I7 C y u q e0 I g0 D U O h0 N)
  have t0:=S8.t.cell 0;rw[show(T67 0 v rev fl (.slice A n c) j)[0]?=some (.int .i64 0) from rfl] at t0;have tf:=S8.t.free 0;go_upto_region 23 with fail
  have V:=QQ (S8.kind (k2:=1));have I9:=QQ (I8.set ac 0 (.int .i64 1));clear S8 I8 t0 tf;generalize (w8.setCell ⟨K,0,none⟩ (.int .i64 1))=W9 at*;have aR:=V.s.hF;have aO:=V.s.o.lt;go_wp2_with (first
   |(refine wpList_load_row rfl 72 _ rfl K rfl 72 (T67 1 v rev fl (.slice A n c) j) (0,0) _ V.t underlying72 rfl (by kernel_rfl) ?_)
   |(refine Zfy rfl 72 _ _ rfl (w.heap.size+1) (T67 0 0 0 0 (.slice none 0 0) []) (T67 1 v rev fl (.slice A n c) j) rfl rfl V.s.z (by kernel_rfl) rfl (Zbw _ _ _ _ _ _ rfl) λW bW Y=>?_;have BW:=QQ bW;have HW:=QQ Y;have FW:=QQ (V.s.f.but Y (by omega));have e0:=FW.cell 0;have I:=FW.cell 1;have g0:=FW.free 0;have D:=FW.free 1;clear bW Y))
  have FX:=Zal FW.out (.int .i64 0) (.int .i64 0);have TX:=(BW.set (k:=F) (by omega) 0 (.int .i64 0)).set (k:=F) (by omega) 1 (.int .i64 0);refine bodyPost_ret (ZeD rfl _ _ (w.heap.size+1) F _ _ _ _ _ _ _ _ rfl rfl TX FX underlying72 rfl (by kernel_rfl) underlying34 rfl (by kernel_rfl)) rfl ⟨_,rfl,?_,?_⟩
  ·exact(((I9.but HW.out (by omega)).set (g:=F) (by omega) 0 _).set (g:=F) (by omega) 1 _).low (by omega)
  ·exact((V.s.low.trans ((HW.mono V.s.low.size).below (by omega))).setCell (p:=⟨F,0,none⟩) (by show w.heap.size<=F;omega) _).setCell (p:=⟨F,1,none⟩) (by show w.heap.size<=F;omega) _
 ·go_enter func15,ntmps15
  go_upto_region 1 with fail
  generalize Y:(((w.alloc _).alloc _).alloc _)=W0;have J:Hid (PgSt w W0 (w.heap.size+1+1) _):=QQ (by rw[<-Y];exact S0.out);clear S0 Y;generalize w.heap.size+1+1=F at*;have C:=J.o.cell 0;have y:=J.o.cell 1;have u:=J.o.cell 2;have q:=J.o.cell 3;have hF:=J.hF;go_upto_region 7 with(go_at_call 40;refine(aw _ J.low).mono ?_;clear aw;rintro e w1 ⟨rfl,ay⟩;have S2:=QQ (J.below ay);clear ay J C y u q)
  go_upto_region 8 with(first
   |(refine Zh0 rfl 72 _ rfl (T67 0 0 0 0 (.slice none 0 0) []) (by kernel_rfl) ?_)
   |(refine Zfz rfl 72 _ _ rfl _ _ (T67 0 0 0 0 (.slice none 0 0) []) 34 rfl rfl (by kernel_rfl) rfl (Zbw _ _ _ _ _ _ rfl) λW3 b3 b4 b5=>?_;have S3:Hid (PpSt w W3 F _ _ _ _):=QQ ⟨S2.below b5,b3,b4,S2.f.lt⟩;clear b3 b4 b5;obtain⟨⟨C,y,u,q⟩,⟨e0,I,g0,D⟩,⟨U,O,h0,N⟩⟩:=S3.cells))
  generalize w1.heap.size=K at*;have X:=QQ (S3.put2 (.int .i64 5) (.int .i64 0));clear S3 S2 C y u q e0 I g0 D U O h0 N;generalize ((W3.setCell ⟨K+1,0,none⟩ (.int .i64 5)).setCell ⟨K+1,1,none⟩ (.int .i64 0))=W4 at*;have Z:=hp W4 X.s.low;have ac:=X.t.lt;have ab:=X.e.lt;have aQ:=X.lt;clear hp;obtain⟨⟨C,y,u,q⟩,⟨e0,I,g0,D⟩,⟨U,O,h0,N⟩⟩:=X.cells;go_upto_region 20 with(first
   |(go_at_call 41;refine Z.mono ?_;clear Z;rintro e w5 ⟨vi,rfl,hit,aa⟩;obtain⟨A,n,c,hv⟩:=Zji hit;subst hv;have S5:=QQ (X.below aa);have I5:=QQ hit;clear hit aa X C y u q e0 I g0 D U O h0 N)
   |(refine Zfy rfl 72 _ _ rfl K (T67 0 0 0 0 (.slice none 0 0) []) (T67 0 v rev fl (.slice A n c) j) rfl rfl S5.t (by kernel_rfl) rfl (Zbw _ _ _ _ _ _ rfl) λW6 b6 h6=>?_;have I6:=QQ (I5.but h6 ac);have S6:=QQ (S5.butK h6 b6);clear b6 h6 S5 I5;obtain⟨⟨C,y,u,q⟩,⟨e0,I,g0,D⟩,⟨U,O,h0,N⟩⟩:=S6.cells))
  have S7:=QQ (S6.put2 (.int .i64 0) (.int .i64 0));have I7:=QQ ((I6.set ab 0 (.int .i64 0)).set ab 1 (.int .i64 0));clear S6 I6 C y u q e0 I g0 D U O h0 N;generalize ((W6.setCell ⟨K+1,0,none⟩ (.int .i64 0)).setCell ⟨K+1,1,none⟩ (.int .i64 0))=W7 at*;obtain⟨⟨C,y,u,q⟩,⟨e0,I,g0,D⟩,⟨U,O,h0,N⟩⟩:=S7.cells;go_upto_region 22 with(go_at_call 8;refine MR (ax _) λw8 L=>?_;have S8:=QQ (S7.below L);have I8:=QQ (I7.below L);clear L S7 I7 C y u q e0 I g0 D U O h0 N)
  have t0:=S8.t.cell 0;rw[show(T67 0 v rev fl (.slice A n c) j)[0]?=some (.int .i64 0) from rfl] at t0;have tf:=S8.t.free 0;go_upto_region 23 with fail
  have V:=QQ (S8.kind (k2:=1));have I9:=QQ (I8.set ac 0 (.int .i64 1));clear S8 I8 t0 tf;generalize (w8.setCell ⟨K,0,none⟩ (.int .i64 1))=W9 at*;have aR:=V.s.hF;have aO:=V.s.o.lt;go_wp2_with (first
   |(refine wpList_load_row rfl 72 _ rfl K rfl 72 (T67 1 v rev fl (.slice A n c) j) (0,0) _ V.t underlying72 rfl (by kernel_rfl) ?_)
   |(refine Zfy rfl 72 _ _ rfl (w.heap.size+1) (T67 0 0 0 0 (.slice none 0 0) []) (T67 1 v rev fl (.slice A n c) j) rfl rfl V.s.z (by kernel_rfl) rfl (Zbw _ _ _ _ _ _ rfl) λW bW Y=>?_;have BW:=QQ bW;have HW:=QQ Y;have FW:=QQ (V.s.f.but Y (by omega));have e0:=FW.cell 0;have I:=FW.cell 1;have g0:=FW.free 0;have D:=FW.free 1;clear bW Y))
  have FX:=Zal FW.out (.int .i64 0) (.int .i64 0);have TX:=(BW.set (k:=F) (by omega) 0 (.int .i64 0)).set (k:=F) (by omega) 1 (.int .i64 0);refine bodyPost_ret (ZeD rfl _ _ (w.heap.size+1) F _ _ _ _ _ _ _ _ rfl rfl TX FX underlying72 rfl (by kernel_rfl) underlying34 rfl (by kernel_rfl)) rfl ⟨_,rfl,?_,?_⟩
  ·exact(((I9.but HW.out (by omega)).set (g:=F) (by omega) 0 _).set (g:=F) (by omega) 1 _).low (by omega)
  ·exact((V.s.low.trans ((HW.mono V.s.low.size).below (by omega))).setCell (p:=⟨F,0,none⟩) (by show w.heap.size<=F;omega) _).setCell (p:=⟨F,1,none⟩) (by show w.heap.size<=F;omega) _
