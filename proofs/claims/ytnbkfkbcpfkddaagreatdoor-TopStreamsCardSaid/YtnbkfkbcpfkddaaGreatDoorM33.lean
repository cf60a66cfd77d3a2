/- Lemmas for a statement on the tops; conditions: as each says. -/
import Derived.Test.YtnbkfkbcpfkddaaGreatDoorM32
set_option linter.unusedVariables false
set_option linter.unusedSimpArgs false
set_option maxRecDepth 100000
set_option maxHeartbeats 1000000
namespace Go.Proofs.YtnbkfkbcpfkddaaGreatDoor
open Go Go.RowKit
theorem Zhu {P:Program} {ops:Array Oper} {rest:List Oper} {o:Oper} {a:Act} {w:World} {Q:Exit→Act→World→Prop} (hgd:o.guard=none)(ty:TypeId)(x y:Operand)(ho:o.op= .store ty x y)
 (g:Nat) (Z T:Array Value) (hx:a.eval x= .pointer (some ⟨g,0,none⟩)) (hy:a.eval y= .agg T) (hb:Bx w g Z ty) (hi:(P.info? ty).map (·.size)=some T.size) (hold:Z.size=T.size) (h1:T.all (·.oneCell')=true)
 (h:∀W,Bx W g T ty→But g w.heap.size w W→wpList P ops Q rest (a.put o.dst undef) W):wpList P ops Q (o::rest) a w:=
 wpList_store_row hgd ty x y ho g T hx hy ty Z hb hi hold h1 (h _ (hb.row T) (ZcX T))
structure PgSt (w wx:World)(F:Nat)(OA:Array Value):Prop where
 o:Bx wx w.heap.size OA 39
 z:Bx wx (w.heap.size+1) (T67 0 0 0 0 (.slice none 0 0) []) 56
 f:Bx wx F #[.int .i64 0,.int .i64 0] 45
 low:Below w.heap.size w wx
 hF:w.heap.size+1<F
theorem PgSt.below {w wx wy:World} {F:Nat} {OA:Array Value} (h:PgSt w wx F OA)(hb:Below wx.heap.size wx wy):PgSt w wy F OA:=⟨h.o.below hb,h.z.below hb,h.f.below hb,h.low.trans (hb.mono h.low.size),h.hF⟩
theorem PgSt.new (w:World)(OA:Array Value):PgSt w (((w.alloc (.cells OA 39)).alloc (.cells (T67 0 0 0 0 (.slice none 0 0) []) 56)).alloc (.cells #[.int .i64 0,.int .i64 0] 45)) (w.heap.size+1+1) OA:=by
 refine⟨((Bx.new w _ _).alloc _).alloc _,?_,?_,(((Below.refl _ _).alloc (Nat.le_refl _) _).alloc (by simp) _).alloc (by simp;omega) _,by omega⟩
 · have:=(Bx.new (w.alloc (.cells OA 39)) (T67 0 0 0 0 (.slice none 0 0) []) 56).alloc (.cells #[.int .i64 0,.int .i64 0] 45);rw [World.size_alloc] at this;exact this
 · have:=Bx.new ((w.alloc (.cells OA 39)).alloc (.cells (T67 0 0 0 0 (.slice none 0 0) []) 56)) #[.int .i64 0,.int .i64 0] 45;rw [World.size_alloc,World.size_alloc] at this;exact this
theorem ZbG {w:World} {base:Nat} {e:TypeId} {size:Nat} {v:Value} {n:Nat} {xs:List Value} (h:w.ownsRow base e size v n xs):∃A n c,v= .slice A n c:=by obtain⟨_,A,c,h,_⟩:=ZbF h;exact⟨A,_,c,h⟩
theorem Zb5 {α:Type} {f:α→List Value} {B0:Nat} {w:World} {v:Value} {l:List α} (h:Zg f B0 w v l):∃A n c,v= .slice A n c:=by obtain⟨A,c,h,_⟩:=h.len;exact⟨A,_,c,h⟩
structure PpSt (w wx:World)(F K:Nat)(OA T FA:Array Value):Prop where
 s:PgSt w wx F OA
 t:Bx wx K T 56
 e:Bx wx (K+1) FA 45
 lt:F<K
theorem PpSt.below {w wx wy:World} {F K:Nat} {OA T FA:Array Value} (h:PpSt w wx F K OA T FA)(hb:Below wx.heap.size wx wy):PpSt w wy F K OA T FA:=⟨h.s.below hb,h.t.below hb,h.e.below hb,h.lt⟩
theorem PpSt.put2 {w wx:World} {F K:Nat} {OA T:Array Value} {x y:Value} (h:PpSt w wx F K OA T #[x,y])(a b:Value):PpSt w ((wx.setCell ⟨K+1,0,none⟩ a).setCell ⟨K+1,1,none⟩ b) F K OA T #[a,b]:=by
 have h1:=h.lt;have h2:=h.s.hF;exact⟨⟨(h.s.o.set (by omega) 0 a).set (by omega) 1 b,(h.s.z.set (by omega) 0 a).set (by omega) 1 b,(h.s.f.set (by omega) 0 a).set (by omega) 1 b,(h.s.low.setCell (by show w.heap.size≤K+1;omega) a).setCell (by show w.heap.size≤K+1;omega) b,h2⟩,
  (h.t.set (by omega) 0 a).set (by omega) 1 b,Za9 h.e a b,h1⟩
theorem PpSt.butK {w wx wy:World} {F K:Nat} {OA T T2 FA:Array Value} (h:PpSt w wx F K OA T FA)(hb:But K wx.heap.size wx wy)(ht:Bx wy K T2 56):PpSt w wy F K OA T2 FA:=by
 have h1:=h.lt;have h2:=h.s.hF;exact⟨⟨h.s.o.but hb (by omega),h.s.z.but hb (by omega),h.s.f.but hb (by omega),h.s.low.trans ((hb.mono h.s.low.size).below (by omega)),h2⟩,ht,h.e.but hb (by omega),h1⟩
theorem PpSt.cells {w wx:World} {F K:Nat} {a0 a1 a2 a3 e0 e1:Value} {T:Array Value} (h:PpSt w wx F K #[a0,a1,a2,a3] T #[e0,e1]):
 (wx.cell? ⟨w.heap.size,0,none⟩=some a0∧wx.cell? ⟨w.heap.size,1,none⟩=some a1∧wx.cell? ⟨w.heap.size,2,none⟩=some a2∧wx.cell? ⟨w.heap.size,3,none⟩=some a3)∧
 (wx.cell? ⟨K+1,0,none⟩=some e0∧wx.cell? ⟨K+1,1,none⟩=some e1∧wx.frozen? ⟨K+1,0,none⟩=false∧wx.frozen? ⟨K+1,1,none⟩=false)∧
 (wx.cell? ⟨F,0,none⟩=some (.int .i64 0)∧wx.cell? ⟨F,1,none⟩=some (.int .i64 0)∧wx.frozen? ⟨F,0,none⟩=false∧wx.frozen? ⟨F,1,none⟩=false):=
 ⟨⟨h.s.o.cell 0,h.s.o.cell 1,h.s.o.cell 2,h.s.o.cell 3⟩,⟨h.e.cell 0,h.e.cell 1,h.e.free 0,h.e.free 1⟩,h.s.f.cell 0,h.s.f.cell 1,h.s.f.free 0,h.s.f.free 1⟩
end Go.Proofs.YtnbkfkbcpfkddaaGreatDoor
