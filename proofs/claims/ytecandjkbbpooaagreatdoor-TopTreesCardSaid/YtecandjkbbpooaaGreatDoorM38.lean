/- Lemmas for a statement on the tops; conditions: as each says. -/
import Derived.Deep.MidRow
import Derived.Great.Walk
import Derived.Test.YtecandjkbbpooaaGreatDoorM5
import Derived.Test.YtecandjkbbpooaaGreatDoorM36
set_option linter.unusedVariables false
set_option linter.unusedSimpArgs false
set_option maxRecDepth 100000
set_option maxHeartbeats 1000000
namespace Go.Proofs.YtecandjkbbpooaaGreatDoor
open Go Go.RowKit
def Ztq:List Value:=[.string ⟨#[73,68,51]⟩,.int .i64 1,.string ⟨#[79,103,103,83]⟩,.int .i64 2,.string ⟨#[102,76,97,67]⟩,.int .i64 3]
def ZjC (w:World):Prop:=w.rangeAt 0 0 Ztq
theorem Zn8 (c:Int)(w:World):Calls Tryz.prog 13 #[.int .i64 c] w fun e w'=>e= .returned (.bool (decide (0≤c∧c≤6)))∧w=w':=by
 by_cases h0:0≤c
 · by_cases h6:c≤6
   · rw [decide_eq_true ⟨h0,h6⟩];go_enter Tryz.func13,Tryz.ntmps13
     go_wp2_with fail
     go_ret
     exact⟨rfl,rfl⟩
   · rw [decide_eq_false fun h=>h6 h.2];go_enter Tryz.func13,Tryz.ntmps13
     go_wp2_with fail
     go_ret
     exact⟨rfl,rfl⟩
 · rw [decide_eq_false fun h=>h0 h.1];go_enter Tryz.func13,Tryz.ntmps13
   go_wp2_with fail
   go_ret
   exact⟨rfl,rfl⟩
theorem Zn6 (c:Int)(w:World):Calls Tryz.prog 12 #[.int .i64 c] w fun e w'=>e= .returned (.bool (decide (1≤c∧c≤7)))∧w=w':=by
 by_cases h0:1≤c
 · by_cases h6:c≤7
   · rw [decide_eq_true ⟨h0,h6⟩];go_enter Tryz.func12,Tryz.ntmps12
     go_wp2_with fail
     go_ret
     exact⟨rfl,rfl⟩
   · rw [decide_eq_false fun h=>h6 h.2];go_enter Tryz.func12,Tryz.ntmps12
     go_wp2_with fail
     go_ret
     exact⟨rfl,rfl⟩
 · rw [decide_eq_false fun h=>h0 h.1];go_enter Tryz.func12,Tryz.ntmps12
   go_wp2_with fail
   go_ret
   exact⟨rfl,rfl⟩
def Zdu (kd fb bud:Int):Bool:=decide ((kd=0∨1≤kd∧kd≤7)∧(0≤fb∧fb≤6)∧0≤bud∧bud≤268435456)
theorem Zjw (kd fb bud:Int)(det:Bool)(w:World):Calls Tryz.prog 5 #[.agg #[.int .i64 kd,.int .i64 fb,.bool det,.int .i64 bud]] w fun e w'=>e= .returned (.bool (Zdu kd fb bud))∧Below w.heap.size w w':=by
 have hlg:=fun w=>Zn8 fb w;have hkn:=fun w=>Zn6 kd w;have hB:Below w.heap.size w (w.alloc (.cells #[.int .i64 kd,.int .i64 fb,.bool det,.int .i64 bud] 28)):=(Below.refl _ _).alloc (Nat.le_refl _) _;unfold Zdu;by_cases hk:kd=0
 · subst hk;by_cases hf:0≤fb∧fb≤6
   · rw [decide_eq_true hf] at hlg;by_cases h0:0≤bud
     · by_cases h1:bud≤268435456
       · rw [decide_eq_true ⟨.inl rfl,hf,h0,h1⟩];clear hkn hf;go_enter Tryz.func5,Tryz.ntmps5
         go_wp2_with (go_at_call 13;refine(hlg _).mono ?_;rintro e w1 ⟨rfl,rfl⟩)
         go_ret
         exact⟨rfl,hB⟩
       · rw [decide_eq_false fun h=>h1 h.2.2.2];clear hkn hf;go_enter Tryz.func5,Tryz.ntmps5
         go_wp2_with (go_at_call 13;refine(hlg _).mono ?_;rintro e w1 ⟨rfl,rfl⟩)
         go_ret
         refine⟨?_,hB⟩;show Ending.returned (.bool (decide (bud≤268435456)))=_
         rw [decide_eq_false (by omega)]
     · rw [decide_eq_false fun h=>h0 h.2.2.1];clear hkn hf;go_enter Tryz.func5,Tryz.ntmps5
       go_wp2_with (go_at_call 13;refine(hlg _).mono ?_;rintro e w1 ⟨rfl,rfl⟩)
       go_ret
       exact⟨rfl,hB⟩
   · rw [decide_eq_false hf] at hlg;rw [decide_eq_false fun h=>hf h.2.1];clear hkn hf;go_enter Tryz.func5,Tryz.ntmps5
     go_wp2_with (go_at_call 13;refine(hlg _).mono ?_;rintro e w1 ⟨rfl,rfl⟩)
     go_ret
     exact⟨rfl,hB⟩
 · by_cases hkk:1≤kd∧kd≤7
   · rw [decide_eq_true hkk] at hkn;by_cases hf:0≤fb∧fb≤6
     · rw [decide_eq_true hf] at hlg;by_cases h0:0≤bud
       · by_cases h1:bud≤268435456
         · rw [decide_eq_true ⟨.inr hkk,hf,h0,h1⟩];clear hkk hf;go_enter Tryz.func5,Tryz.ntmps5
           go_wp2_with (first|(go_at_call 13;refine(hlg _).mono ?_;rintro e w1 ⟨rfl,rfl⟩)|(go_at_call 12;refine(hkn _).mono ?_;rintro e w1 ⟨rfl,rfl⟩))
           go_ret
           exact⟨rfl,hB⟩
         · rw [decide_eq_false fun h=>h1 h.2.2.2];clear hkk hf;go_enter Tryz.func5,Tryz.ntmps5
           go_wp2_with (first|(go_at_call 13;refine(hlg _).mono ?_;rintro e w1 ⟨rfl,rfl⟩)|(go_at_call 12;refine(hkn _).mono ?_;rintro e w1 ⟨rfl,rfl⟩))
           go_ret
           refine⟨?_,hB⟩;show Ending.returned (.bool (decide (bud≤268435456)))=_
           rw [decide_eq_false (by omega)]
       · rw [decide_eq_false fun h=>h0 h.2.2.1];clear hkk hf;go_enter Tryz.func5,Tryz.ntmps5
         go_wp2_with (first|(go_at_call 13;refine(hlg _).mono ?_;rintro e w1 ⟨rfl,rfl⟩)|(go_at_call 12;refine(hkn _).mono ?_;rintro e w1 ⟨rfl,rfl⟩))
         go_ret
         exact⟨rfl,hB⟩
     · rw [decide_eq_false hf] at hlg;rw [decide_eq_false fun h=>hf h.2.1];clear hkk hf;go_enter Tryz.func5,Tryz.ntmps5
       go_wp2_with (first|(go_at_call 13;refine(hlg _).mono ?_;rintro e w1 ⟨rfl,rfl⟩)|(go_at_call 12;refine(hkn _).mono ?_;rintro e w1 ⟨rfl,rfl⟩))
       go_ret
       exact⟨rfl,hB⟩
   · rw [decide_eq_false hkk] at hkn;rw [decide_eq_false fun h=>h.1.elim hk hkk];clear hkk;go_enter Tryz.func5,Tryz.ntmps5
     go_wp2_with (first|(go_at_call 13;refine(hlg _).mono ?_;rintro e w1 ⟨rfl,rfl⟩)|(go_at_call 12;refine(hkn _).mono ?_;rintro e w1 ⟨rfl,rfl⟩))
     go_ret
     exact⟨rfl,hB⟩
theorem Zpc (T:Array Value)(hs:T.size=25)(hk:T[0]? =some (.int .i64 1))(s:ByteArray)(x y:Int)(w:World)
 (h:∀wx,Below w.heap.size w wx→Calls Tryz.prog 14 #[.agg T] wx fun e w'=>e= .returned (.tuple #[.string s,.agg #[.int .i64 x,.int .i64 y]])∧Below wx.heap.size wx w'):
 Calls Tryz.prog 6 #[.agg T] w fun e w'=>e= .returned (.tuple #[.string s,.agg #[.int .i64 x,.int .i64 y]])∧Below w.heap.size w w':=by
 have hB0:Below w.heap.size w ((w.alloc (.cells T 59)).alloc (.cells #[.int .i64 0,.int .i64 0] 62)):=((Below.refl _ _).alloc (Nat.le_refl _) _).alloc (by simp) _;have HB0:=Lib.hid hB0;have h2:=h _ hB0;have bx:Bx ((w.alloc (.cells T 59)).alloc (.cells #[.int .i64 0,.int .i64 0] 62)) w.heap.size T 59:=(Bx.new w _ _).alloc _;have c0:((w.alloc (.cells T 59)).alloc (.cells #[.int .i64 0,.int .i64 0] 62)).cell? ⟨w.heap.size,0,none⟩=some (.int .i64 1):=by rw [bx.cell 0,hk]
 clear h hB0;go_enter Tryz.func6,Tryz.ntmps6
 go_wp2_with (first
  |(refine wpList_load_row rfl 59 _ rfl w.heap.size rfl 59 T (0,0) _ bx Tryz.underlying59 rfl (by rw [hs];kernel_rfl) ?_)
  |(go_at_call 14;refine h2.mono ?_;clear h2;rintro e w1 ⟨rfl,hb⟩;have hq:=F2 hb;rw [World.size_alloc] at hq;have HF:=Lib.hid hq;have HB:=Lib.hid (HB0.out.trans (hb.mono HB0.out.size));obtain⟨q0,q1,f0,f1⟩:=Zb5 hq;clear hb hq))
 refine bodyPost_ret (v:= .tuple #[.string s,.agg #[.int .i64 x,.int .i64 y]]) ?_ rfl ⟨rfl,?_⟩
 · have h1:Bx w1 (w.heap.size+1) #[.int .i64 0,.int .i64 0] 62:=HF.out;have h3:=(h1.put 0 (.int .i64 x)).put 1 (.int .i64 y);have p0:=h3.cell 0;have p1:=h3.cell 1;simp only [Array.getElem?_setIfInBounds] at p0 p1;simp [results,Tryz.results6,go_sem,p0,p1]
 · exact(HB.out.setCell (Nat.le_succ _) _).setCell (Nat.le_succ _) _
structure NoSt (w wx:World)(kd fb:Int)(det:Bool):Prop where
 o:Bx wx w.heap.size #[.int .i64 kd,.int .i64 fb,.bool det,.int .i64 0] 28
 f:Bx wx (w.heap.size+1) #[.int .i64 0,.int .i64 0] 62
 low:Below w.heap.size w wx
theorem NoSt.below {w wx wy:World} {kd fb:Int} {det:Bool} (h:NoSt w wx kd fb det)(hb:Below wx.heap.size wx wy):NoSt w wy kd fb det:=⟨h.o.below hb,h.f.below hb,h.low.trans (hb.mono h.low.size)⟩
theorem NoSt.cells {w wx:World} {kd fb:Int} {det:Bool} (h:NoSt w wx kd fb det):(wx.cell? ⟨w.heap.size,0,none⟩=some (.int .i64 kd)∧wx.cell? ⟨w.heap.size,1,none⟩=some (.int .i64 fb)∧wx.cell? ⟨w.heap.size,2,none⟩=some (.bool det)∧wx.cell? ⟨w.heap.size,3,none⟩=some (.int .i64 0))∧
 wx.cell? ⟨w.heap.size+1,0,none⟩=some (.int .i64 0)∧wx.cell? ⟨w.heap.size+1,1,none⟩=some (.int .i64 0)∧wx.frozen? ⟨w.heap.size+1,0,none⟩=false∧wx.frozen? ⟨w.heap.size+1,1,none⟩=false:=
 ⟨⟨by rw [h.o.cell 0];rfl,by rw [h.o.cell 1];rfl,by rw [h.o.cell 2];rfl,by rw [h.o.cell 3];rfl⟩,by rw [h.f.cell 0];rfl,by rw [h.f.cell 1];rfl,h.f.free 0,h.f.free 1⟩
structure NfSt (w w2 wx:World)(kd fb:Int)(det:Bool)(T:Array Value)(p q:Value):Prop where
 s:NoSt w wx kd fb det
 t:Bx wx w2.heap.size T 59
 f:Bx wx (w2.heap.size+1) #[p,q] 62
 low:Below w2.heap.size w2 wx
 lt:w.heap.size+2≤w2.heap.size
theorem NfSt.below {w w2 wx wy:World} {kd fb:Int} {det:Bool} {T:Array Value} {p q:Value} (h:NfSt w w2 wx kd fb det T p q)(hb:Below wx.heap.size wx wy):NfSt w w2 wy kd fb det T p q:=
 ⟨h.s.below hb,h.t.below hb,h.f.below hb,h.low.trans (hb.mono h.low.size),h.lt⟩
theorem NfSt.put {w w2 wx:World} {kd fb:Int} {det:Bool} {T:Array Value} {p q:Value} (h:NfSt w w2 wx kd fb det T p q)(x y:Value):NfSt w w2 ((wx.setCell ⟨w2.heap.size+1,0,none⟩ x).setCell ⟨w2.heap.size+1,1,none⟩ y) kd fb det T x y:=by
 have hl:=h.lt;exact⟨⟨(h.s.o.set (by omega) 0 x).set (by omega) 1 y,(h.s.f.set (by omega) 0 x).set (by omega) 1 y,(h.s.low.setCell (by show w.heap.size≤w2.heap.size+1;omega) _).setCell (by show w.heap.size≤w2.heap.size+1;omega) _⟩,
  (h.t.set (by omega) 0 x).set (by omega) 1 y,(h.f.put 0 x).put 1 y,(h.low.setCell (Nat.le_succ _) _).setCell (Nat.le_succ _) _,h.lt⟩
theorem NfSt.cells {w w2 wx:World} {kd fb:Int} {det:Bool} {T:Array Value} {p q:Value} (h:NfSt w w2 wx kd fb det T p q):((wx.cell? ⟨w.heap.size,0,none⟩=some (.int .i64 kd)∧wx.cell? ⟨w.heap.size,1,none⟩=some (.int .i64 fb)∧wx.cell? ⟨w.heap.size,2,none⟩=some (.bool det)∧wx.cell? ⟨w.heap.size,3,none⟩=some (.int .i64 0))∧
 wx.cell? ⟨w.heap.size+1,0,none⟩=some (.int .i64 0)∧wx.cell? ⟨w.heap.size+1,1,none⟩=some (.int .i64 0)∧wx.frozen? ⟨w.heap.size+1,0,none⟩=false∧wx.frozen? ⟨w.heap.size+1,1,none⟩=false)∧
 wx.cell? ⟨w2.heap.size+1,0,none⟩=some p∧wx.cell? ⟨w2.heap.size+1,1,none⟩=some q∧wx.frozen? ⟨w2.heap.size+1,0,none⟩=false∧wx.frozen? ⟨w2.heap.size+1,1,none⟩=false:=⟨h.s.cells,Zb5 h.f⟩
theorem ZgP {P:Program} {ops:Array Oper} {rest:List Oper} {o:Oper} {a:Act} {w:World} {Q:Exit→Act→World→Prop} (hgd:o.guard=none)(ty:TypeId)(x y:Operand)(ho:o.op= .store ty x y)
 (Z F T:Array Value) (tf:TypeId) (hx:a.eval x= .pointer (some ⟨w.heap.size,0,none⟩)) (hy:a.eval y= .agg T) (hi:(P.info? ty).map (·.size)=some T.size) (hold:Z.size=T.size) (h1:T.all (·.oneCell')=true)
 (h:∀W,Bx W w.heap.size T ty→Bx W (w.heap.size+1) F tf→Below w.heap.size w W→wpList P ops Q rest (a.put o.dst undef) W):wpList P ops Q (o::rest) a ((w.alloc (.cells Z ty)).alloc (.cells F tf)):=by
 have b0:Bx ((w.alloc (.cells Z ty)).alloc (.cells F tf)) w.heap.size Z ty:=(Bx.new w Z ty).alloc _;have b1:Bx ((w.alloc (.cells Z ty)).alloc (.cells F tf)) (w.heap.size+1) F tf:=by have:=Bx.new (w.alloc (.cells Z ty)) F tf;rw [World.size_alloc] at this;exact this
 refine wpList_store_row hgd ty x y ho w.heap.size T hx hy ty Z b0 hi hold h1 (h _ (b0.row T) (b1.rowO (by omega) T) ?_);exact ZfV (((Below.refl _ _).alloc (Nat.le_refl _) _).alloc (by simp) _) (Nat.le_refl _) T
theorem Zog (b:ByteArray)(hb0:b.size≤268435456)(kd fb:Int)(det:Bool)(hr:Zdu kd fb 0=true)(text:ByteArray)(ht:text.size≤268435456)(R:Array Value→World→Prop)(hR:∀T w1 w2,R T w1→Below w1.heap.size w1 w2→R T w2)(w:World)
 (hp:∀wx,Below w.heap.size w wx→Calls Tryz.prog 8 #[.string b,.agg #[.int .i64 kd,.int .i64 fb,.bool det,.int .i64 0]] wx fun e w'=>∃T,e= .returned (.tuple #[.agg T,.agg #[.int .i64 0,.int .i64 0]])∧(T.size=25∧T.all (·.oneCell')=true)∧R T w'∧Below wx.heap.size wx w')
 (hq:∀T wx,T.size=25→R T wx→Calls Tryz.prog 6 #[.agg T] wx fun e w'=>e= .returned (.tuple #[.string text,.agg #[.int .i64 0,.int .i64 0]])∧Below wx.heap.size wx w'):
 Calls Tryz.prog 10 #[.string b,.agg #[.int .i64 kd,.int .i64 fb,.bool det,.int .i64 0]] w fun e w'=>e= .returned (.tuple #[.string text,.agg #[.int .i64 0,.int .i64 0]])∧Below w.heap.size w w':=by
 have hrt:=fun w=>Zjw kd fb 0 det w;rw [hr] at hrt;have hbd:=fun w=>ZT 0 0 rfl w;clear hr;have S0:Hid (NoSt w ((w.alloc (.cells #[.int .i64 kd,.int .i64 fb,.bool det,.int .i64 0] 28)).alloc (.cells #[.int .i64 0,.int .i64 0] 62)) kd fb det):=Lib.hid ⟨(Bx.new w _ _).alloc _,by have:=Bx.new (w.alloc (.cells #[.int .i64 kd,.int .i64 fb,.bool det,.int .i64 0] 28)) #[.int .i64 0,.int .i64 0] 62;rw [World.size_alloc] at this;exact this,((Below.refl _ _).alloc (Nat.le_refl _) _).alloc (by simp) _⟩;go_enter Tryz.func10,Tryz.ntmps10
 go_upto_region 6 with(first
  |(go_at_call 5;refine(hrt _).mono ?_;clear hrt;rintro e w1 ⟨rfl,hb1⟩;have S1:=Lib.hid (S0.out.below hb1);clear hb1;obtain⟨⟨c0,c1,c2,c3⟩,r0,r1,f0,f1⟩:=S1.out.cells)
  |(go_at_call 8;refine(hp _ S1.out.low).mono ?_;clear hp;rintro e w2 ⟨T,rfl,hT,hRT,hb2⟩;have S2:=Lib.hid (S1.out.below hb2);clear hb2 c0 c1 c2 c3 r0 r1 f0 f1;have HT:=Lib.hid hT;have HR:=Lib.hid hRT;clear hT hRT)
  |(refine ZgP rfl 59 _ _ rfl _ _ T 62 rfl rfl (by rw [HT.out.1];kernel_rfl) (by rw [HT.out.1];rfl) HT.out.2 fun w3 hb3 hb4 hb5=> ?_;have S3:Hid (NfSt w w2 w3 kd fb det T _ _):=Lib.hid ⟨S2.out.below hb5,hb3,hb4,hb5,by have:=S2.out.f.lt;omega⟩;clear hb3 hb4 hb5;obtain⟨⟨⟨c0,c1,c2,c3⟩,r0,r1,f0,f1⟩,u0,u1,g0,g1⟩:=S3.out.cells))
 have S4:=Lib.hid (S3.out.put (.int .i64 0) (.int .i64 0));clear S3 S2 S1 S0 c0 c1 c2 c3 r0 r1 f0 f1 u0 u1 g0 g1;generalize (w3.setCell ⟨w2.heap.size+1,0,none⟩ (.int .i64 0)).setCell ⟨w2.heap.size+1,1,none⟩ (.int .i64 0)=w4 at*;obtain⟨⟨⟨c0,c1,c2,c3⟩,r0,r1,f0,f1⟩,u0,u1,g0,g1⟩:=S4.out.cells;go_upto_region 9 with(first
  |(go_at_call 7;refine(hbd _).mono ?_;rintro e w5 ⟨rfl,hb5⟩;have S5:=Lib.hid (S4.out.below hb5);clear hb5 c0 c1 c2 c3 r0 r1 f0 f1 u0 u1 g0 g1;obtain⟨⟨⟨c0,c1,c2,c3⟩,r0,r1,f0,f1⟩,u0,u1,g0,g1⟩:=S5.out.cells)
  |(refine wpList_load_row rfl 59 _ rfl w2.heap.size rfl 59 T (0,0) _ S5.out.t Tryz.underlying59 rfl (by rw [HT.out.1];kernel_rfl) ?_)
  |(go_at_call 6;refine(hq T _ HT.out.1 (hR _ _ _ HR.out S5.out.low)).mono ?_;clear hq;rintro e w6 ⟨rfl,hb6⟩;have S6:=Lib.hid (S5.out.below hb6);clear hb6 c0 c1 c2 c3 r0 r1 f0 f1 u0 u1 g0 g1;obtain⟨⟨⟨c0,c1,c2,c3⟩,r0,r1,f0,f1⟩,u0,u1,g0,g1⟩:=S6.out.cells))
 have S7:=Lib.hid (S6.out.put (.int .i64 0) (.int .i64 0));clear S6 S5 S4 c0 c1 c2 c3 r0 r1 f0 f1 u0 u1 g0 g1;generalize (w6.setCell ⟨w2.heap.size+1,0,none⟩ (.int .i64 0)).setCell ⟨w2.heap.size+1,1,none⟩ (.int .i64 0)=w7 at*;obtain⟨⟨⟨c0,c1,c2,c3⟩,r0,r1,f0,f1⟩,u0,u1,g0,g1⟩:=S7.out.cells;go_wp2_with (go_at_call 7;refine(hbd _).mono ?_;rintro e w8 ⟨rfl,hb8⟩;have S8:=Lib.hid (S7.out.below hb8);clear hb8 c0 c1 c2 c3 r0 r1 f0 f1 u0 u1 g0 g1;obtain⟨⟨⟨c0,c1,c2,c3⟩,r0,r1,f0,f1⟩,u0,u1,g0,g1⟩:=S8.out.cells)
 refine bodyPost_ret (v:= .tuple #[.string text,.agg #[.int .i64 0,.int .i64 0]]) ?_ rfl ⟨rfl,?_⟩
 · have h3:=(S8.out.s.f.put 0 (.int .i64 0)).put 1 (.int .i64 0);have p0:=h3.cell 0;have p1:=h3.cell 1;simp only [Array.getElem?_setIfInBounds] at p0 p1;simp [results,Tryz.results10,go_sem,p0,p1]
 · exact(S8.out.s.low.setCell (Nat.le_succ _) _).setCell (Nat.le_succ _) _
theorem ZeR (v:Nat)(f:Fr)(hid:f.id.length≤100000)(w:World):
 Calls Tryz.prog 42 #[.int .i64 v,.agg #[.string (B f.id),.int .u8 f.st.toNat,.int .u8 f.fm.toNat,.int .u8 f.grp.toNat,.string (B f.body),.int .i64 f.at_]] w fun e w'=>e= .returned (.bool (!decide (Zd v f.id=[])))∧Below w.heap.size w w':=by
 have hla:=fun w=>ZeT v f.id hid w;have hB:Below w.heap.size w (w.alloc (.cells #[.string (B f.id),.int .u8 f.st.toNat,.int .u8 f.fm.toNat,.int .u8 f.grp.toNat,.string (B f.body),.int .i64 f.at_] 34)):=(Below.refl _ _).alloc (Nat.le_refl _) _;have HB:=Lib.hid hB;by_cases h0:Zd v f.id=[]
 · rw [h0,show B (Zm [])=⟨#[]⟩ from rfl] at hla;rw [decide_eq_true h0];clear h0 hB;go_enter Tryz.func42,Tryz.ntmps42
   go_wp2_with (go_at_call 105;refine(hla _).mono ?_;rintro e w1 ⟨rfl,rfl⟩)
   go_ret
   exact⟨rfl,HB.out⟩
 · have hne:(B (Zm (Zd v f.id))).toList.isEmpty=false:=Zeg (by unfold Zm;intro h;exact h0 (List.map_eq_nil_iff.1 h));rw [decide_eq_false h0];generalize B (Zm (Zd v f.id))=s at*;clear h0 hB;go_enter Tryz.func42,Tryz.ntmps42
   go_wp2_with (go_at_call 105;refine(hla _).mono ?_;rintro e w1 ⟨rfl,rfl⟩)
   go_ret
   exact⟨rfl,HB.out⟩
structure It where
 f:Fr
 ps:List Pi
theorem ZsP {B0:Nat} {w:World} {v:Value} {l:List Pt} (h:Zi ptL B0 w v l):Zi piL B0 w v (l.map ZcB):=by
 unfold Zi at h⊢;rw [ZsQ,List.length_map,ne_eq,List.map_eq_nil_iff] at*;exact h
def itV (x:It×Value):List Value:=[.string (B x.1.f.id),.int .u8 x.1.f.st.toNat,.int .u8 x.1.f.fm.toNat,.int .u8 x.1.f.grp.toNat,.string (B x.1.f.body),.int .i64 x.1.f.at_,x.2]
theorem Zfe (x:It×Value):(itV x).length=7:=rfl
def Zaw (B0:Nat)(w:World)(v:Value)(l:List It):Prop:=∃xs:List (It×Value),xs.map (·.1)=l∧Zi itV B0 w v xs∧∀x∈xs,Zi piL B0 w x.2 x.1.ps
theorem Zaw.below {B0:Nat} {w w':World} {v:Value} {l:List It} (h:Zaw B0 w v l)(hb:Below w.heap.size w w'):Zaw B0 w' v l:=by
 obtain⟨xs,h1,h2,h3⟩:=h;exact⟨xs,h1,h2.below hb,fun x hx=>(h3 x hx).below hb⟩
theorem Zaw.low {B0 B1:Nat} {w:World} {v:Value} {l:List It} (h:Zaw B0 w v l)(hb:B1≤B0):Zaw B1 w v l:=by
 obtain⟨xs,h1,h2,h3⟩:=h;exact⟨xs,h1,h2.low hb,fun x hx=>(h3 x hx).low hb⟩
theorem Zaw.len {B0:Nat} {w:World} {v:Value} {l:List It} (h:Zaw B0 w v l):∃A c,v= .slice A l.length c∧l.length≤c:=by
 obtain⟨xs,rfl,h2,h3⟩:=h;rw [List.length_map];exact h2.len
theorem Zi.at7 {w:World} {bk:Nat} {l:List (It×Value)} (h:∀j u,(l.flatMap itV)[j]? =some u→w.cell? ⟨bk,j,none⟩=some u){k:Nat} {x:It×Value} (hx:l[k]? =some x):
 w.cell? ⟨bk,k*7,none⟩=some (.string (B x.1.f.id))∧w.cell? ⟨bk,k*7+1,none⟩=some (.int .u8 x.1.f.st.toNat)∧w.cell? ⟨bk,k*7+2,none⟩=some (.int .u8 x.1.f.fm.toNat)∧w.cell? ⟨bk,k*7+3,none⟩=some (.int .u8 x.1.f.grp.toNat)∧w.cell? ⟨bk,k*7+4,none⟩=some (.string (B x.1.f.body))∧w.cell? ⟨bk,k*7+5,none⟩=some (.int .i64 x.1.f.at_)∧w.cell? ⟨bk,k*7+6,none⟩=some x.2:=by
 have q:∀j,j<7→(l.flatMap itV)[k*7+j]? =(itV x)[j]?:=fun j hj=>Zet 7 itV Zfe l k j x hx hj;exact⟨h _ _ (q 0 (by decide)),h _ _ (q 1 (by decide)),h _ _ (q 2 (by decide)),h _ _ (q 3 (by decide)),h _ _ (q 4 (by decide)),h _ _ (q 5 (by decide)),h _ _ (q 6 (by decide))⟩
theorem Zrt:(Tryz.prog.info? 37).map (fun i=>(i.zero,i.size,i.bytes))=some (some (.agg #[.string ⟨#[]⟩,.int .u8 0,.int .u8 0,.int .u8 0,.string ⟨#[]⟩,.int .i64 0,.slice none 0 0]),7,80):=by kernel_rfl
section
variable {ops:Array Oper} {rest:List Oper} {o:Oper} {a:Act} {Q:Exit→Act→World→Prop}
theorem ZjX (hgd:o.guard=none)(s x:Operand)(ho:o.op= .call {callee:= .builtin .append,args:=#[s,x],argTypes:=#[24,24]}) (base:Nat) (v:Value) (L:List (It×Value)) (hs:a.eval s=v) (W:World) (p:It×Value) (cs:Array Value) (hcs:cs=(itV p).toArray) (h1:p.2.oneCell'=true)
 (hown:W.ownsRow base 37 7 v L.length (L.flatMap itV)) (hbase:base≤W.heap.size) (hlen:L.length≤16777216) (hx:a.eval x= .slice (some ⟨W.heap.size,0,none⟩) 1 1)
 (h:∀v' w',Hid (w'.ownsRow base 37 7 v' (L++[p]).length ((L++[p]).flatMap itV))→Below base W w'→W.grownBy w' v.ownBlock→wpList Tryz.prog ops Q rest (a.put o.dst v') w'):
 wpList Tryz.prog ops Q (o::rest) a (W.alloc (.cells cs 37)):=by
 obtain⟨i0,hi,iz0,iz1,iz2⟩:=info_parts Zrt;rw [hcs];refine wpList_append_own _ hgd s x 24 ho base 37 i0 _ 7 80 Tryz.underlying24 hi iz0 iz1 iz2 rfl (by decide) v L.length _ hs (hown.alloc _) ⟨W.heap.size,0,none⟩ 1 1 (itV p) hx rfl (Zfo W (itV p) _) ?_ (by unfold maxLen;omega) (by omega) (by simp;omega) ?_
 · intro u hu;simp only [itV,List.mem_cons,List.not_mem_nil,or_false] at hu;rcases hu with rfl|rfl|rfl|rfl|rfl|rfl|rfl<;>first|rfl|exact h1
 · intro v6 w6 hown6 hg6 _;refine h v6 w6 (Lib.hid ?_) (Zaa ((Below.refl _ W).alloc hbase _) (hown.alloc _) hg6 (by simp;omega) (Nat.le_refl _)) ⟨hg6.os,hg6.tape,hg6.output,by have:=hg6.size;simp at this;omega,fun k hk hc=>(hg6.block k (by simp;omega) hc).trans (Below.heap_alloc _ _ _ hk)⟩;rw [List.flatMap_append,List.length_append];simpa [itV] using hown6
end
theorem Zl1 {base B0:Nat} {W W':World} {v s:Value} {L:List (It×Value)} {ps:List Pi} (hown:W.ownsRow base 37 7 v L.length (L.flatMap itV))(hn:L=[]→v= .slice none 0 0)(hg:W.grownBy W' v.ownBlock)(h:Zi piL B0 W s ps):Zi piL B0 W' s ps:=by
 rcases h with h|⟨bk,c,h0,h1,h2,h5,h3,h4⟩
 · exact .inl h
 · have hne:v.ownBlock≠some bk:=by
    intro e;by_cases hL:L=[]
    · rw [hn hL] at e;cases e
    · obtain⟨x,hx⟩:∃x,L[0]? =some x:=by
       cases L with
       |nil=>exact absurd rfl hL
       |cons a l=>exact⟨a,rfl⟩
      rcases Zi.of_own (f:=itV) rfl hown hn with⟨q,_⟩|⟨g,cap,q0,q1,q2,q3,q4,q5⟩
      · exact hL q
      · subst q1;have hgb:g=bk:=by simpa [Value.ownBlock] using e
        subst hgb;have a1:=(Zi.at7 q5 hx).2.1;obtain⟨p,hp⟩:∃p,ps[0]? =some p:=by
         cases ps with
         |nil=>exact absurd rfl h0
         |cons a l=>exact⟨a,rfl⟩
        have a2:=(Zi.at4 h4 hp).2.1;simp only [Nat.zero_mul] at a1 a2;rw [a1] at a2;cases a2
   refine .inr ⟨bk,c,h0,h1,h2,h5,Nat.lt_of_lt_of_le h3 hg.size,fun j u hu=> ?_⟩;have hb:=hg.block bk h3 (fun e=>hne e.symm);rw [←h4 j u hu];unfold World.cell?;rw [hb]
def T67 (kd:Int)(v:Nat)(r f:UInt8)(it:Value)(s:List UInt8):Array Value:=#[.int .i64 kd,.int .i64 v,.int .u8 r.toNat,.int .u8 f.toNat,it,.string (B s),
 .int .u8 0,.int .u64 0,.int .u32 0,.int .u32 0,.string ⟨#[]⟩,.string ⟨#[]⟩,.string ⟨#[]⟩,.int .i64 0,.slice none 0 0,.string ⟨#[]⟩,.slice none 0 0,
 .slice none 0 0,.string ⟨#[]⟩,.int .i64 0,.slice none 0 0,.int .i64 0,.string ⟨#[]⟩,.slice none 0 0,.int .i64 0]
theorem ZmU (kd:Int)(v:Nat)(r f:UInt8)(it:Value)(s:List UInt8):(T67 kd v r f it s).size=25:=rfl
theorem ZcG (kd:Int)(v:Nat)(r f:UInt8)(it:Value)(s:List UInt8)(h:it.oneCell'=true):(T67 kd v r f it s).all (·.oneCell')=true:=by
 unfold T67;simp [h]
 repeat (first|exact rfl|refine And.intro rfl ?_)
theorem t67_it (kd:Int)(v:Nat)(r f:UInt8)(it it2:Value)(s:List UInt8):(T67 kd v r f it s).setIfInBounds 4 it2=T67 kd v r f it2 s:=rfl
theorem t67_kd (kd k2:Int)(v:Nat)(r f:UInt8)(it:Value)(s:List UInt8):(T67 kd v r f it s).setIfInBounds 0 (.int .i64 k2)=T67 k2 v r f it s:=rfl
theorem ZgO {P:Program} {ops:Array Oper} {rest:List Oper} {o:Oper} {a:Act} {w:World} {Q:Exit→Act→World→Prop} (hg:o.guard=none)(t:TypeId)(parts:Array (Nat×Operand))(ho:o.op= .build t parts)(v:Array Value)
 (hf:P.built t (parts.map fun(i,x)=>(i,a.eval x)).toList=some v)
 (h:wpList P ops Q rest (a.put o.dst (.agg v)) w):wpList P ops Q (o::rest) a w:=
 wpList_build hg t parts ho (by rw [hf];rfl) (by rw [hf];exact h)
theorem Ziq {P:Program} {fn:Func} {p q:Tmp} {ty ty2:TypeId} (h:fn.results=#[.cell p ty,.cell q ty2])(tmps:Array Value)(w:World)(g k:Nat)(T T2:TypeId)(cs cs2:Array Value)(fr fr2:Nat×Nat)(d d2:TypeDesc)
 (hp:tmps.getD p undef= .pointer (some ⟨g,0,none⟩)) (hq:tmps.getD q undef= .pointer (some ⟨k,0,none⟩)) (hg:w.heap[g]? =some (.cells cs T fr)) (hk:w.heap[k]? =some (.cells cs2 T2 fr2))
 (hu:P.underlying ty=some d) (hd:(match d with| .struct _| .array _ _=>true|_=>false)=true) (hi:(P.info? ty).map (·.size)=some cs.size)
 (hu2:P.underlying ty2=some d2) (hd2:(match d2 with| .struct _| .array _ _=>true|_=>false)=true) (hi2:(P.info? ty2).map (·.size)=some cs2.size):
 (results fn tmps).run P w= .ok (.tuple #[.agg cs,.agg cs2]) w:=by
 have hp':tmps[p]?.getD undef= .pointer (some ⟨g,0,none⟩):=by simpa using hp
 have hq':tmps[q]?.getD undef= .pointer (some ⟨k,0,none⟩):=by simpa using hq
 simp [results,h,hp',hq',asAddr,run_loadVar_row w g T ty cs fr d hg hu hd hi,run_loadVar_row w k T2 ty2 cs2 fr2 d2 hk hu2 hd2 hi2]
theorem ZeD {P:Program} {fn:Func} {p t:Tmp} {ty:TypeId} (h:fn.results=#[.cell p ty,.tmp t])(tmps:Array Value)(w:World)(g:Nat)(T:TypeId)(cs:Array Value)(fr:Nat×Nat)(d:TypeDesc)(u:Value)
 (hp:tmps.getD p undef= .pointer (some ⟨g,0,none⟩)) (ht:tmps.getD t undef=u) (hg:w.heap[g]? =some (.cells cs T fr))
 (hu:P.underlying ty=some d) (hd:(match d with| .struct _| .array _ _=>true|_=>false)=true) (hi:(P.info? ty).map (·.size)=some cs.size):
 (results fn tmps).run P w= .ok (.tuple #[.agg cs,u]) w:=by
 have hp':tmps[p]?.getD undef= .pointer (some ⟨g,0,none⟩):=by simpa using hp
 have ht':tmps[t]?.getD undef=u:=by simpa using ht
 simp [results,h,hp',ht',asAddr,run_loadVar_row w g T ty cs fr d hg hu hd hi]
noncomputable def ZcU (wd:Nat→List UInt8→Except (Nat×Nat) (List UInt8×Nat))(v:Nat)(f:Fr):Option It:=
 if Zd v f.id=[] then some ⟨f,[]⟩ else if ZJ v f.fm=true then none else
 match Zcf wd v f.id f.body with| .error _=>none| .ok l=>some ⟨{f with body:=[]},l.map ZcB⟩
structure WhSt (w wx:World)(F:Nat)(I X:Array Value):Prop where
 i:Bx wx w.heap.size I 37
 r:Bx wx (w.heap.size+1) #[.string ⟨#[]⟩,.int .u8 0,.int .u8 0,.int .u8 0,.string ⟨#[]⟩,.int .i64 0] 34
 f:Bx wx F X 34
 low:Below w.heap.size w wx
 hF:w.heap.size+1<F
theorem WhSt.below {w wx wy:World} {F:Nat} {I X:Array Value} (h:WhSt w wx F I X)(hb:Below wx.heap.size wx wy):WhSt w wy F I X:=⟨h.i.below hb,h.r.below hb,h.f.below hb,h.low.trans (hb.mono h.low.size),h.hF⟩
theorem WhSt.new (w:World)(I X:Array Value):WhSt w (((w.alloc (.cells I 37)).alloc (.cells #[.string ⟨#[]⟩,.int .u8 0,.int .u8 0,.int .u8 0,.string ⟨#[]⟩,.int .i64 0] 34)).alloc (.cells X 34)) (w.heap.size+1+1) I X:=by
 refine⟨((Bx.new w _ _).alloc _).alloc _,?_,?_,(((Below.refl _ _).alloc (Nat.le_refl _) _).alloc (by simp) _).alloc (by simp;omega) _,by omega⟩
 · have:=(Bx.new (w.alloc (.cells I 37)) #[.string ⟨#[]⟩,.int .u8 0,.int .u8 0,.int .u8 0,.string ⟨#[]⟩,.int .i64 0] 34).alloc (.cells X 34);rw [World.size_alloc] at this;exact this
 · have:=Bx.new ((w.alloc (.cells I 37)).alloc (.cells #[.string ⟨#[]⟩,.int .u8 0,.int .u8 0,.int .u8 0,.string ⟨#[]⟩,.int .i64 0] 34)) X 34;rw [World.size_alloc,World.size_alloc] at this;exact this
theorem WhSt.cells {w wx:World} {a0 a1 a2 a3 a4 a5 a6 x0 x1 x2 x3 x4 x5:Value} {F:Nat} (h:WhSt w wx F #[a0,a1,a2,a3,a4,a5,a6] #[x0,x1,x2,x3,x4,x5]):
 wx.cell? ⟨w.heap.size,6,none⟩=some a6∧(wx.cell? ⟨F,0,none⟩=some x0∧wx.cell? ⟨F,1,none⟩=some x1∧wx.cell? ⟨F,2,none⟩=some x2∧wx.cell? ⟨F,3,none⟩=some x3∧wx.cell? ⟨F,4,none⟩=some x4∧wx.cell? ⟨F,5,none⟩=some x5∧wx.frozen? ⟨F,4,none⟩=false)∧
 ((wx.cell? ⟨w.heap.size+1,0,none⟩=some (.string ⟨#[]⟩)∧wx.cell? ⟨w.heap.size+1,1,none⟩=some (.int .u8 0)∧wx.cell? ⟨w.heap.size+1,2,none⟩=some (.int .u8 0)∧wx.cell? ⟨w.heap.size+1,3,none⟩=some (.int .u8 0)∧wx.cell? ⟨w.heap.size+1,4,none⟩=some (.string ⟨#[]⟩)∧wx.cell? ⟨w.heap.size+1,5,none⟩=some (.int .i64 0))∧(∀j,wx.frozen? ⟨w.heap.size+1,j,none⟩=false))∧F<wx.heap.size:=
 ⟨h.i.cell 6,⟨h.f.cell 0,h.f.cell 1,h.f.cell 2,h.f.cell 3,h.f.cell 4,h.f.cell 5,h.f.free 4⟩,⟨⟨h.r.cell 0,h.r.cell 1,h.r.cell 2,h.r.cell 3,h.r.cell 4,h.r.cell 5⟩,h.r.free⟩,h.f.lt⟩
theorem Zei {w:World} {g:Nat} {T:TypeId} {x0 x1 x2 x3 x4 x5:Value} (h:Bx w g #[x0,x1,x2,x3,x4,x5] T)(a b c d e f:Value):Bx ((((((w.setCell ⟨g,0,none⟩ a).setCell ⟨g,1,none⟩ b).setCell ⟨g,2,none⟩ c).setCell ⟨g,3,none⟩ d).setCell ⟨g,4,none⟩ e).setCell ⟨g,5,none⟩ f) g #[a,b,c,d,e,f] T:=
 (((((h.put 0 a).put 1 b).put 2 c).put 3 d).put 4 e).put 5 f
theorem Zn1 (v:Nat)(f:Fr)(hid:f.id.length≤100000)(A:Option Addr)(c:Nat)(ps:List Pi)(w:World)(hr:RdN 4 piL w w.heap.size A ps)(hps:∀p∈ps,p.text.length≤100000)(hG:Grd w)(h0:Zd v f.id≠[])(hck:Zaj v f.id ps=(0,0))(hb:f.body=[])(hl:ZJ v f.fm=false):
 Calls Tryz.prog 25 #[.agg #[.string (B f.id),.int .u8 f.st.toNat,.int .u8 f.fm.toNat,.int .u8 f.grp.toNat,.string (B f.body),.int .i64 f.at_,.slice A ps.length c],.int .i64 v] w fun e w'=>
  e= .returned (.tuple #[.agg #[.string (B f.id),.int .u8 f.st.toNat,.int .u8 f.fm.toNat,.int .u8 f.grp.toNat,.string (B (UInt8.ofNat (Zo v)::prL (Zo v) (Zd v f.id) ps)),.int .i64 f.at_],.int .i64 0])∧Below w.heap.size w w':=by
 have hkn:=fun w=>ZeR v f hid w;rw [decide_eq_false h0,Bool.not_false] at hkn;have hfp:∀wx,Below w.heap.size w wx→Calls Tryz.prog 71 #[.int .i64 v,.string (B f.id),.slice A ps.length c] wx (Zd8 wx (UInt8.ofNat (Zo v)::prL (Zo v) (Zd v f.id) ps)):=fun wx hb=>Zi9 v f.id hid A c ps wx ((hr.below hb).more hb.size) hps (hG.below hb) h0 hck;unfold Zd8 at hfp;have hlk:=fun w=>Zdc (B f.id) f.st f.fm v w;rw [Int.toNat_natCast,hl] at hlk;have hbd:=fun w=>ZT 0 0 rfl w;generalize UInt8.ofNat (Zo v)::prL (Zo v) (Zd v f.id) ps=out at*;generalize Value.slice A ps.length c=vp at*;have hbs:f.body=[]:=hb;rw [hbs,show B []=⟨#[]⟩ from rfl] at hkn⊢;generalize B f.id=id at*;generalize f.at_=at_ at*;generalize f.st.toNat=st at*;generalize f.fm.toNat=fm at*;generalize f.grp.toNat=grp at*;have bi:Bx ((w.alloc (.cells #[.string id,.int .u8 st,.int .u8 fm,.int .u8 grp,.string ⟨#[]⟩,.int .i64 at_,vp] 37)).alloc (.cells #[.string ⟨#[]⟩,.int .u8 0,.int .u8 0,.int .u8 0,.string ⟨#[]⟩,.int .i64 0] 34)) w.heap.size #[.string id,.int .u8 st,.int .u8 fm,.int .u8 grp,.string ⟨#[]⟩,.int .i64 at_,vp] 37:=(Bx.new w _ _).alloc _;have hm:((w.alloc (.cells #[.string id,.int .u8 st,.int .u8 fm,.int .u8 grp,.string ⟨#[]⟩,.int .i64 at_,vp] 37)).alloc (.cells #[.string ⟨#[]⟩,.int .u8 0,.int .u8 0,.int .u8 0,.string ⟨#[]⟩,.int .i64 0] 34)).rangeAt w.heap.size 0 [.string id,.int .u8 st,.int .u8 fm,.int .u8 grp,.string ⟨#[]⟩,.int .i64 at_]:=fun j u hu=>by
  rw [Nat.zero_add,bi.cell j];have hj:j<6:=(List.getElem?_eq_some_iff.1 hu).1
  match j,hj,hu with
  |0,_,hu=>exact hu
  |1,_,hu=>exact hu
  |2,_,hu=>exact hu
  |3,_,hu=>exact hu
  |4,_,hu=>exact hu
  |5,_,hu=>exact hu
 have Hm:=Lib.hid hm;have S0:=Lib.hid (WhSt.new w #[.string id,.int .u8 st,.int .u8 fm,.int .u8 grp,.string ⟨#[]⟩,.int .i64 at_,vp] #[.string id,.int .u8 st,.int .u8 fm,.int .u8 grp,.string ⟨#[]⟩,.int .i64 at_]);clear hm bi hb hbs hl hck h0 hid hps hr;go_enter Tryz.func25,Tryz.ntmps25
 go_upto_region 2 with(refine wpList_load_mid rfl 34 _ rfl w.heap.size 0 rfl [.string id,.int .u8 st,.int .u8 fm,.int .u8 grp,.string ⟨#[]⟩,.int .i64 at_] _ Hm.out Tryz.underlying34 rfl (by kernel_rfl) ?_)
 clear Hm;generalize (((w.alloc _).alloc _).alloc _)=W0 at*;generalize w.heap.size+1+1=F at*;have hF:=S0.out.hF;obtain⟨i6,⟨c0,c1,c2,c3,c4,c5,f4⟩,⟨⟨r0,r1,r2,r3,r4,r5⟩,rf⟩,l3⟩:=S0.out.cells;go_upto_region 6 with(go_at_call 42;refine(hkn _).mono ?_;clear hkn;rintro e w1 ⟨rfl,hb1⟩;have S1:=Lib.hid (S0.out.below hb1);clear hb1 S0 i6 c0 c1 c2 c3 c4 c5 f4 r0 r1 r2 r3 r4 r5 rf l3;obtain⟨i6,⟨c0,c1,c2,c3,c4,c5,f4⟩,⟨⟨r0,r1,r2,r3,r4,r5⟩,rf⟩,l3⟩:=S1.out.cells)
 go_upto_region 9 with(first
  |(go_at_call 71;refine(hfp _ S1.out.low).mono ?_;clear hfp;rintro e w2 ⟨rfl,hb2⟩;have S2:=Lib.hid (S1.out.below hb2);clear hb2 S1 i6 c0 c1 c2 c3 c4 c5 f4 r0 r1 r2 r3 r4 r5 rf l3)
  |(go_at_call 7;refine(hbd _).mono ?_;rintro e w3 ⟨rfl,hb3⟩;have S3:=Lib.hid (((S2.out.below ((Below.refl _ _).alloc (Nat.le_refl _) _))).below hb3);clear hb3 S2;obtain⟨i6,⟨c0,c1,c2,c3,c4,c5,f4⟩,⟨⟨r0,r1,r2,r3,r4,r5⟩,rf⟩,l3⟩:=S3.out.cells))
 go_wp2_with (go_at_call 43;refine(hlk _).mono ?_;clear hlk;rintro e w4 ⟨rfl,hb4⟩;have S4:=Lib.hid (S3.out.below hb4);clear hb4 S3 i6 c0 c1 c2 c3 c4 c5 f4 r0 r1 r2 r3 r4 r5 rf l3;obtain⟨i6,⟨c0,c1,c2,c3,c4,c5,f4⟩,⟨⟨r0,r1,r2,r3,r4,r5⟩,rf⟩,l3⟩:=S4.out.cells)
 have X1:=Zei (S4.out.r.set (k:=F) (by omega) 4 (.string (B out))) (.string id) (.int .u8 st) (.int .u8 fm) (.int .u8 grp) (.string (B out)) (.int .i64 at_);refine bodyPost_ret (ZeD rfl _ _ (w.heap.size+1) _ _ _ _ _ rfl rfl X1 Tryz.underlying34 rfl (by kernel_rfl)) rfl ⟨rfl,?_⟩;exact ZeG (S4.out.low.setCell (p:=⟨F,4,none⟩) (by show w.heap.size≤F;omega) _) (Nat.le_succ _) _ _ _ _ _ _
end Go.Proofs.YtecandjkbbpooaaGreatDoor
