/- Lemmas for a statement on the tops; conditions: as each says. -/
import Derived.Deep.MidRow
import Derived.Great.Walk
import Derived.Test.YtlfinljfghhpdaaGreatDoorM6
import Derived.Test.YtlfinljfghhpdaaGreatDoorM35
set_option linter.unusedVariables false
set_option linter.unusedSimpArgs false
set_option maxRecDepth 100000
set_option maxHeartbeats 1000000
namespace Go.Proofs.YtlfinljfghhpdaaGreatDoor
open Go Go.RowKit
def Ziv:List Value:=[.string ⟨#[73,68,51]⟩,.int .i64 1,.string ⟨#[79,103,103,83]⟩,.int .i64 2,.string ⟨#[102,76,97,67]⟩,.int .i64 3]
def Zff (w:World):Prop:=w.rangeAt 0 0 Ziv
theorem Zov (c:Int)(w:World):Calls Tryz.prog 33 #[.int .i64 c] w fun e w'=>e= .returned (.bool (decide (0≤c∧c≤6)))∧w=w':=by
 by_cases h0:0≤c
 · by_cases h6:c≤6
   · rw [decide_eq_true ⟨h0,h6⟩];go_enter Tryz.func33,Tryz.ntmps33
     go_wp2_with fail
     go_ret
     exact⟨rfl,rfl⟩
   · rw [decide_eq_false fun h=>h6 h.2];go_enter Tryz.func33,Tryz.ntmps33
     go_wp2_with fail
     go_ret
     exact⟨rfl,rfl⟩
 · rw [decide_eq_false fun h=>h0 h.1];go_enter Tryz.func33,Tryz.ntmps33
   go_wp2_with fail
   go_ret
   exact⟨rfl,rfl⟩
theorem Zot (c:Int)(w:World):Calls Tryz.prog 32 #[.int .i64 c] w fun e w'=>e= .returned (.bool (decide (1≤c∧c≤7)))∧w=w':=by
 by_cases h0:1≤c
 · by_cases h6:c≤7
   · rw [decide_eq_true ⟨h0,h6⟩];go_enter Tryz.func32,Tryz.ntmps32
     go_wp2_with fail
     go_ret
     exact⟨rfl,rfl⟩
   · rw [decide_eq_false fun h=>h6 h.2];go_enter Tryz.func32,Tryz.ntmps32
     go_wp2_with fail
     go_ret
     exact⟨rfl,rfl⟩
 · rw [decide_eq_false fun h=>h0 h.1];go_enter Tryz.func32,Tryz.ntmps32
   go_wp2_with fail
   go_ret
   exact⟨rfl,rfl⟩
def ZeJ (kd fb bud:Int):Bool:=decide ((kd=0∨1≤kd∧kd≤7)∧(0≤fb∧fb≤6)∧0≤bud∧bud≤268435456)
theorem Zpr (kd fb bud:Int)(det:Bool)(w:World):Calls Tryz.prog 18 #[.agg #[.int .i64 kd,.int .i64 fb,.bool det,.int .i64 bud]] w fun e w'=>e= .returned (.bool (ZeJ kd fb bud))∧Below w.heap.size w w':=by
 have hlg:=fun w=>Zov fb w;have hkn:=fun w=>Zot kd w;have hB:Below w.heap.size w (w.alloc (.cells #[.int .i64 kd,.int .i64 fb,.bool det,.int .i64 bud] 39)):=(Below.refl _ _).alloc (Nat.le_refl _) _;unfold ZeJ;by_cases hk:kd=0
 · subst hk;by_cases hf:0≤fb∧fb≤6
   · rw [decide_eq_true hf] at hlg;by_cases h0:0≤bud
     · by_cases h1:bud≤268435456
       · rw [decide_eq_true ⟨.inl rfl,hf,h0,h1⟩];clear hkn hf;go_enter Tryz.func18,Tryz.ntmps18
         go_wp2_with (go_at_call 33;refine(hlg _).mono ?_;rintro e w1 ⟨rfl,rfl⟩)
         go_ret
         exact⟨rfl,hB⟩
       · rw [decide_eq_false fun h=>h1 h.2.2.2];clear hkn hf;go_enter Tryz.func18,Tryz.ntmps18
         go_wp2_with (go_at_call 33;refine(hlg _).mono ?_;rintro e w1 ⟨rfl,rfl⟩)
         go_ret
         refine⟨?_,hB⟩;show Ending.returned (.bool (decide (bud≤268435456)))=_
         rw [decide_eq_false (by omega)]
     · rw [decide_eq_false fun h=>h0 h.2.2.1];clear hkn hf;go_enter Tryz.func18,Tryz.ntmps18
       go_wp2_with (go_at_call 33;refine(hlg _).mono ?_;rintro e w1 ⟨rfl,rfl⟩)
       go_ret
       exact⟨rfl,hB⟩
   · rw [decide_eq_false hf] at hlg;rw [decide_eq_false fun h=>hf h.2.1];clear hkn hf;go_enter Tryz.func18,Tryz.ntmps18
     go_wp2_with (go_at_call 33;refine(hlg _).mono ?_;rintro e w1 ⟨rfl,rfl⟩)
     go_ret
     exact⟨rfl,hB⟩
 · by_cases hkk:1≤kd∧kd≤7
   · rw [decide_eq_true hkk] at hkn;by_cases hf:0≤fb∧fb≤6
     · rw [decide_eq_true hf] at hlg;by_cases h0:0≤bud
       · by_cases h1:bud≤268435456
         · rw [decide_eq_true ⟨.inr hkk,hf,h0,h1⟩];clear hkk hf;go_enter Tryz.func18,Tryz.ntmps18
           go_wp2_with (first|(go_at_call 33;refine(hlg _).mono ?_;rintro e w1 ⟨rfl,rfl⟩)|(go_at_call 32;refine(hkn _).mono ?_;rintro e w1 ⟨rfl,rfl⟩))
           go_ret
           exact⟨rfl,hB⟩
         · rw [decide_eq_false fun h=>h1 h.2.2.2];clear hkk hf;go_enter Tryz.func18,Tryz.ntmps18
           go_wp2_with (first|(go_at_call 33;refine(hlg _).mono ?_;rintro e w1 ⟨rfl,rfl⟩)|(go_at_call 32;refine(hkn _).mono ?_;rintro e w1 ⟨rfl,rfl⟩))
           go_ret
           refine⟨?_,hB⟩;show Ending.returned (.bool (decide (bud≤268435456)))=_
           rw [decide_eq_false (by omega)]
       · rw [decide_eq_false fun h=>h0 h.2.2.1];clear hkk hf;go_enter Tryz.func18,Tryz.ntmps18
         go_wp2_with (first|(go_at_call 33;refine(hlg _).mono ?_;rintro e w1 ⟨rfl,rfl⟩)|(go_at_call 32;refine(hkn _).mono ?_;rintro e w1 ⟨rfl,rfl⟩))
         go_ret
         exact⟨rfl,hB⟩
     · rw [decide_eq_false hf] at hlg;rw [decide_eq_false fun h=>hf h.2.1];clear hkk hf;go_enter Tryz.func18,Tryz.ntmps18
       go_wp2_with (first|(go_at_call 33;refine(hlg _).mono ?_;rintro e w1 ⟨rfl,rfl⟩)|(go_at_call 32;refine(hkn _).mono ?_;rintro e w1 ⟨rfl,rfl⟩))
       go_ret
       exact⟨rfl,hB⟩
   · rw [decide_eq_false hkk] at hkn;rw [decide_eq_false fun h=>h.1.elim hk hkk];clear hkk;go_enter Tryz.func18,Tryz.ntmps18
     go_wp2_with (first|(go_at_call 33;refine(hlg _).mono ?_;rintro e w1 ⟨rfl,rfl⟩)|(go_at_call 32;refine(hkn _).mono ?_;rintro e w1 ⟨rfl,rfl⟩))
     go_ret
     exact⟨rfl,hB⟩
structure NoSt (w wx:World)(kd fb:Int)(det:Bool):Prop where
 o:Bx wx w.heap.size #[.int .i64 kd,.int .i64 fb,.bool det,.int .i64 0] 39
 f:Bx wx (w.heap.size+1) #[.int .i64 0,.int .i64 0] 33
 low:Below w.heap.size w wx
theorem NoSt.below {w wx wy:World} {kd fb:Int} {det:Bool} (h:NoSt w wx kd fb det)(hb:Below wx.heap.size wx wy):NoSt w wy kd fb det:=⟨h.o.below hb,h.f.below hb,h.low.trans (hb.mono h.low.size)⟩
theorem NoSt.cells {w wx:World} {kd fb:Int} {det:Bool} (h:NoSt w wx kd fb det):(wx.cell? ⟨w.heap.size,0,none⟩=some (.int .i64 kd)∧wx.cell? ⟨w.heap.size,1,none⟩=some (.int .i64 fb)∧wx.cell? ⟨w.heap.size,2,none⟩=some (.bool det)∧wx.cell? ⟨w.heap.size,3,none⟩=some (.int .i64 0))∧
 wx.cell? ⟨w.heap.size+1,0,none⟩=some (.int .i64 0)∧wx.cell? ⟨w.heap.size+1,1,none⟩=some (.int .i64 0)∧wx.frozen? ⟨w.heap.size+1,0,none⟩=false∧wx.frozen? ⟨w.heap.size+1,1,none⟩=false:=
 ⟨⟨by rw [h.o.cell 0];rfl,by rw [h.o.cell 1];rfl,by rw [h.o.cell 2];rfl,by rw [h.o.cell 3];rfl⟩,by rw [h.f.cell 0];rfl,by rw [h.f.cell 1];rfl,h.f.free 0,h.f.free 1⟩
structure NfSt (w w2 wx:World)(kd fb:Int)(det:Bool)(T:Array Value)(p q:Value):Prop where
 s:NoSt w wx kd fb det
 t:Bx wx w2.heap.size T 74
 f:Bx wx (w2.heap.size+1) #[p,q] 33
 low:Below w2.heap.size w2 wx
 lt:w.heap.size+2≤w2.heap.size
theorem NfSt.below {w w2 wx wy:World} {kd fb:Int} {det:Bool} {T:Array Value} {p q:Value} (h:NfSt w w2 wx kd fb det T p q)(hb:Below wx.heap.size wx wy):NfSt w w2 wy kd fb det T p q:=
 ⟨h.s.below hb,h.t.below hb,h.f.below hb,h.low.trans (hb.mono h.low.size),h.lt⟩
theorem NfSt.put {w w2 wx:World} {kd fb:Int} {det:Bool} {T:Array Value} {p q:Value} (h:NfSt w w2 wx kd fb det T p q)(x y:Value):NfSt w w2 ((wx.setCell ⟨w2.heap.size+1,0,none⟩ x).setCell ⟨w2.heap.size+1,1,none⟩ y) kd fb det T x y:=by
 have hl:=h.lt;exact⟨⟨(h.s.o.set (by omega) 0 x).set (by omega) 1 y,(h.s.f.set (by omega) 0 x).set (by omega) 1 y,(h.s.low.setCell (by show w.heap.size≤w2.heap.size+1;omega) _).setCell (by show w.heap.size≤w2.heap.size+1;omega) _⟩,
  (h.t.set (by omega) 0 x).set (by omega) 1 y,(h.f.put 0 x).put 1 y,(h.low.setCell (Nat.le_succ _) _).setCell (Nat.le_succ _) _,h.lt⟩
theorem NfSt.cells {w w2 wx:World} {kd fb:Int} {det:Bool} {T:Array Value} {p q:Value} (h:NfSt w w2 wx kd fb det T p q):((wx.cell? ⟨w.heap.size,0,none⟩=some (.int .i64 kd)∧wx.cell? ⟨w.heap.size,1,none⟩=some (.int .i64 fb)∧wx.cell? ⟨w.heap.size,2,none⟩=some (.bool det)∧wx.cell? ⟨w.heap.size,3,none⟩=some (.int .i64 0))∧
 wx.cell? ⟨w.heap.size+1,0,none⟩=some (.int .i64 0)∧wx.cell? ⟨w.heap.size+1,1,none⟩=some (.int .i64 0)∧wx.frozen? ⟨w.heap.size+1,0,none⟩=false∧wx.frozen? ⟨w.heap.size+1,1,none⟩=false)∧
 wx.cell? ⟨w2.heap.size+1,0,none⟩=some p∧wx.cell? ⟨w2.heap.size+1,1,none⟩=some q∧wx.frozen? ⟨w2.heap.size+1,0,none⟩=false∧wx.frozen? ⟨w2.heap.size+1,1,none⟩=false:=⟨h.s.cells,ZbL h.f⟩
theorem ZnH {P:Program} {ops:Array Oper} {rest:List Oper} {o:Oper} {a:Act} {w:World} {Q:Exit→Act→World→Prop} (hgd:o.guard=none)(ty:TypeId)(x y:Operand)(ho:o.op= .store ty x y)
 (Z F T:Array Value) (tf:TypeId) (hx:a.eval x= .pointer (some ⟨w.heap.size,0,none⟩)) (hy:a.eval y= .agg T) (hi:(P.info? ty).map (·.size)=some T.size) (hold:Z.size=T.size) (h1:T.all (·.oneCell')=true)
 (h:∀W,Bx W w.heap.size T ty→Bx W (w.heap.size+1) F tf→Below w.heap.size w W→wpList P ops Q rest (a.put o.dst undef) W):wpList P ops Q (o::rest) a ((w.alloc (.cells Z ty)).alloc (.cells F tf)):=by
 have b0:Bx ((w.alloc (.cells Z ty)).alloc (.cells F tf)) w.heap.size Z ty:=(Bx.new w Z ty).alloc _;have b1:Bx ((w.alloc (.cells Z ty)).alloc (.cells F tf)) (w.heap.size+1) F tf:=by have:=Bx.new (w.alloc (.cells Z ty)) F tf;rw [World.size_alloc] at this;exact this
 refine wpList_store_row hgd ty x y ho w.heap.size T hx hy ty Z b0 hi hold h1 (h _ (b0.row T) (b1.rowO (by omega) T) ?_);exact Zqx (((Below.refl _ _).alloc (Nat.le_refl _) _).alloc (by simp) _) (Nat.le_refl _) T
theorem ZoA (b:ByteArray)(hb0:b.size≤268435456)(kd fb:Int)(det:Bool)(hr:ZeJ kd fb 0=true)(text:ByteArray)(ht:text.size≤268435456)(R:Array Value→World→Prop)(hR:∀T w1 w2,R T w1→Below w1.heap.size w1 w2→R T w2)(w:World)
 (hp:∀wx,Below w.heap.size w wx→Calls Tryz.prog 19 #[.string b,.agg #[.int .i64 kd,.int .i64 fb,.bool det,.int .i64 0]] wx fun e w'=>∃T,e= .returned (.tuple #[.agg T,.agg #[.int .i64 0,.int .i64 0]])∧(T.size=25∧T.all (·.oneCell')=true)∧R T w'∧Below wx.heap.size wx w')
 (hq:∀T wx,T.size=25→R T wx→Calls Tryz.prog 20 #[.agg T] wx fun e w'=>e= .returned (.tuple #[.string text,.agg #[.int .i64 0,.int .i64 0]])∧Below wx.heap.size wx w'):
 Calls Tryz.prog 9 #[.string b,.agg #[.int .i64 kd,.int .i64 fb,.bool det,.int .i64 0]] w fun e w'=>e= .returned (.tuple #[.string text,.agg #[.int .i64 0,.int .i64 0]])∧Below w.heap.size w w':=by
 have hrt:=fun w=>Zpr kd fb 0 det w;rw [hr] at hrt;have hbd:=fun w=>Zdc 0 0 rfl w;clear hr;have S0:Hid (NoSt w ((w.alloc (.cells #[.int .i64 kd,.int .i64 fb,.bool det,.int .i64 0] 39)).alloc (.cells #[.int .i64 0,.int .i64 0] 33)) kd fb det):=Lib.hid ⟨(Bx.new w _ _).alloc _,by have:=Bx.new (w.alloc (.cells #[.int .i64 kd,.int .i64 fb,.bool det,.int .i64 0] 39)) #[.int .i64 0,.int .i64 0] 33;rw [World.size_alloc] at this;exact this,((Below.refl _ _).alloc (Nat.le_refl _) _).alloc (by simp) _⟩;go_enter Tryz.func9,Tryz.ntmps9
 go_upto_region 6 with(first
  |(go_at_call 18;refine(hrt _).mono ?_;clear hrt;rintro e w1 ⟨rfl,hb1⟩;have S1:=Lib.hid (S0.out.below hb1);clear hb1;obtain⟨⟨c0,c1,c2,c3⟩,r0,r1,f0,f1⟩:=S1.out.cells)
  |(go_at_call 19;refine(hp _ S1.out.low).mono ?_;clear hp;rintro e w2 ⟨T,rfl,hT,hRT,hb2⟩;have S2:=Lib.hid (S1.out.below hb2);clear hb2 c0 c1 c2 c3 r0 r1 f0 f1;have HT:=Lib.hid hT;have HR:=Lib.hid hRT;clear hT hRT)
  |(refine ZnH rfl 74 _ _ rfl _ _ T 33 rfl rfl (by rw [HT.out.1];kernel_rfl) (by rw [HT.out.1];rfl) HT.out.2 fun w3 hb3 hb4 hb5=> ?_;have S3:Hid (NfSt w w2 w3 kd fb det T _ _):=Lib.hid ⟨S2.out.below hb5,hb3,hb4,hb5,by have:=S2.out.f.lt;omega⟩;clear hb3 hb4 hb5;obtain⟨⟨⟨c0,c1,c2,c3⟩,r0,r1,f0,f1⟩,u0,u1,g0,g1⟩:=S3.out.cells))
 have S4:=Lib.hid (S3.out.put (.int .i64 0) (.int .i64 0));clear S3 S2 S1 S0 c0 c1 c2 c3 r0 r1 f0 f1 u0 u1 g0 g1;generalize (w3.setCell ⟨w2.heap.size+1,0,none⟩ (.int .i64 0)).setCell ⟨w2.heap.size+1,1,none⟩ (.int .i64 0)=w4 at*;obtain⟨⟨⟨c0,c1,c2,c3⟩,r0,r1,f0,f1⟩,u0,u1,g0,g1⟩:=S4.out.cells;go_upto_region 9 with(first
  |(go_at_call 10;refine(hbd _).mono ?_;rintro e w5 ⟨rfl,hb5⟩;have S5:=Lib.hid (S4.out.below hb5);clear hb5 c0 c1 c2 c3 r0 r1 f0 f1 u0 u1 g0 g1;obtain⟨⟨⟨c0,c1,c2,c3⟩,r0,r1,f0,f1⟩,u0,u1,g0,g1⟩:=S5.out.cells)
  |(refine wpList_load_row rfl 74 _ rfl w2.heap.size rfl 74 T (0,0) _ S5.out.t Tryz.underlying74 rfl (by rw [HT.out.1];kernel_rfl) ?_)
  |(go_at_call 20;refine(hq T _ HT.out.1 (hR _ _ _ HR.out S5.out.low)).mono ?_;clear hq;rintro e w6 ⟨rfl,hb6⟩;have S6:=Lib.hid (S5.out.below hb6);clear hb6 c0 c1 c2 c3 r0 r1 f0 f1 u0 u1 g0 g1;obtain⟨⟨⟨c0,c1,c2,c3⟩,r0,r1,f0,f1⟩,u0,u1,g0,g1⟩:=S6.out.cells))
 have S7:=Lib.hid (S6.out.put (.int .i64 0) (.int .i64 0));clear S6 S5 S4 c0 c1 c2 c3 r0 r1 f0 f1 u0 u1 g0 g1;generalize (w6.setCell ⟨w2.heap.size+1,0,none⟩ (.int .i64 0)).setCell ⟨w2.heap.size+1,1,none⟩ (.int .i64 0)=w7 at*;obtain⟨⟨⟨c0,c1,c2,c3⟩,r0,r1,f0,f1⟩,u0,u1,g0,g1⟩:=S7.out.cells;go_wp2_with (go_at_call 10;refine(hbd _).mono ?_;rintro e w8 ⟨rfl,hb8⟩;have S8:=Lib.hid (S7.out.below hb8);clear hb8 c0 c1 c2 c3 r0 r1 f0 f1 u0 u1 g0 g1;obtain⟨⟨⟨c0,c1,c2,c3⟩,r0,r1,f0,f1⟩,u0,u1,g0,g1⟩:=S8.out.cells)
 refine bodyPost_ret (v:= .tuple #[.string text,.agg #[.int .i64 0,.int .i64 0]]) ?_ rfl ⟨rfl,?_⟩
 · have h3:=(S8.out.s.f.put 0 (.int .i64 0)).put 1 (.int .i64 0);have p0:=h3.cell 0;have p1:=h3.cell 1;simp only [Array.getElem?_setIfInBounds] at p0 p1;simp [results,Tryz.results9,go_sem,p0,p1]
 · exact(S8.out.s.low.setCell (Nat.le_succ _) _).setCell (Nat.le_succ _) _
structure It where
 f:Fr
 ps:List Pi
def T67 (kd:Int)(v:Nat)(r f:UInt8)(it:Value)(s:List UInt8):Array Value:=#[.int .i64 kd,.int .i64 v,.int .u8 r.toNat,.int .u8 f.toNat,it,.string (B s),
 .int .u8 0,.int .u64 0,.int .u32 0,.int .u32 0,.string ⟨#[]⟩,.string ⟨#[]⟩,.string ⟨#[]⟩,.int .i64 0,.slice none 0 0,.string ⟨#[]⟩,.slice none 0 0,
 .slice none 0 0,.string ⟨#[]⟩,.int .i64 0,.slice none 0 0,.int .i64 0,.string ⟨#[]⟩,.slice none 0 0,.int .i64 0]
theorem Zug (kd:Int)(v:Nat)(r f:UInt8)(it:Value)(s:List UInt8)(h:it.oneCell'=true):(T67 kd v r f it s).all (·.oneCell')=true:=by
 unfold T67;simp [h]
 repeat (first|exact rfl|refine And.intro rfl ?_)
theorem ZnG {P:Program} {ops:Array Oper} {rest:List Oper} {o:Oper} {a:Act} {w:World} {Q:Exit→Act→World→Prop} (hg:o.guard=none)(t:TypeId)(parts:Array (Nat×Operand))(ho:o.op= .build t parts)(v:Array Value)
 (hf:P.built t (parts.map fun(i,x)=>(i,a.eval x)).toList=some v)
 (h:wpList P ops Q rest (a.put o.dst (.agg v)) w):wpList P ops Q (o::rest) a w:=
 wpList_build hg t parts ho (by rw [hf];rfl) (by rw [hf];exact h)
theorem ZmJ {P:Program} {fn:Func} {p q:Tmp} {ty ty2:TypeId} (h:fn.results=#[.cell p ty,.cell q ty2])(tmps:Array Value)(w:World)(g k:Nat)(T T2:TypeId)(cs cs2:Array Value)(fr fr2:Nat×Nat)(d d2:TypeDesc)
 (hp:tmps.getD p undef= .pointer (some ⟨g,0,none⟩)) (hq:tmps.getD q undef= .pointer (some ⟨k,0,none⟩)) (hg:w.heap[g]? =some (.cells cs T fr)) (hk:w.heap[k]? =some (.cells cs2 T2 fr2))
 (hu:P.underlying ty=some d) (hd:(match d with| .struct _| .array _ _=>true|_=>false)=true) (hi:(P.info? ty).map (·.size)=some cs.size)
 (hu2:P.underlying ty2=some d2) (hd2:(match d2 with| .struct _| .array _ _=>true|_=>false)=true) (hi2:(P.info? ty2).map (·.size)=some cs2.size):
 (results fn tmps).run P w= .ok (.tuple #[.agg cs,.agg cs2]) w:=by
 have hp':tmps[p]?.getD undef= .pointer (some ⟨g,0,none⟩):=by simpa using hp
 have hq':tmps[q]?.getD undef= .pointer (some ⟨k,0,none⟩):=by simpa using hq
 simp [results,h,hp',hq',asAddr,run_loadVar_row w g T ty cs fr d hg hu hd hi,run_loadVar_row w k T2 ty2 cs2 fr2 d2 hk hu2 hd2 hi2]
theorem ZiW {P:Program} {ops:Array Oper} {rest:List Oper} {o:Oper} {a:Act} {w:World} {Q:Exit→Act→World→Prop} (hgd:o.guard=none)(ty:TypeId)(x y:Operand)(ho:o.op= .store ty x y)
 (g:Nat) (Z T:Array Value) (hx:a.eval x= .pointer (some ⟨g,0,none⟩)) (hy:a.eval y= .agg T) (hb:Bx w g Z ty) (hi:(P.info? ty).map (·.size)=some T.size) (hold:Z.size=T.size) (h1:T.all (·.oneCell')=true)
 (h:∀W,Bx W g T ty→But g w.heap.size w W→wpList P ops Q rest (a.put o.dst undef) W):wpList P ops Q (o::rest) a w:=
 wpList_store_row hgd ty x y ho g T hx hy ty Z hb hi hold h1 (h _ (hb.row T) (ZqC T))
structure PgSt (w wx:World)(F:Nat)(OA:Array Value):Prop where
 o:Bx wx w.heap.size OA 39
 z:Bx wx (w.heap.size+1) (T67 0 0 0 0 (.slice none 0 0) []) 74
 f:Bx wx F #[.int .i64 0,.int .i64 0] 33
 low:Below w.heap.size w wx
 hF:w.heap.size+1<F
theorem PgSt.below {w wx wy:World} {F:Nat} {OA:Array Value} (h:PgSt w wx F OA)(hb:Below wx.heap.size wx wy):PgSt w wy F OA:=⟨h.o.below hb,h.z.below hb,h.f.below hb,h.low.trans (hb.mono h.low.size),h.hF⟩
theorem PgSt.new (w:World)(OA:Array Value):PgSt w (((w.alloc (.cells OA 39)).alloc (.cells (T67 0 0 0 0 (.slice none 0 0) []) 74)).alloc (.cells #[.int .i64 0,.int .i64 0] 33)) (w.heap.size+1+1) OA:=by
 refine⟨((Bx.new w _ _).alloc _).alloc _,?_,?_,(((Below.refl _ _).alloc (Nat.le_refl _) _).alloc (by simp) _).alloc (by simp;omega) _,by omega⟩
 · have:=(Bx.new (w.alloc (.cells OA 39)) (T67 0 0 0 0 (.slice none 0 0) []) 74).alloc (.cells #[.int .i64 0,.int .i64 0] 33);rw [World.size_alloc] at this;exact this
 · have:=Bx.new ((w.alloc (.cells OA 39)).alloc (.cells (T67 0 0 0 0 (.slice none 0 0) []) 74)) #[.int .i64 0,.int .i64 0] 33;rw [World.size_alloc,World.size_alloc] at this;exact this
structure PpSt (w wx:World)(F K:Nat)(OA T FA:Array Value):Prop where
 s:PgSt w wx F OA
 t:Bx wx K T 74
 e:Bx wx (K+1) FA 33
 lt:F<K
theorem PpSt.below {w wx wy:World} {F K:Nat} {OA T FA:Array Value} (h:PpSt w wx F K OA T FA)(hb:Below wx.heap.size wx wy):PpSt w wy F K OA T FA:=⟨h.s.below hb,h.t.below hb,h.e.below hb,h.lt⟩
theorem PpSt.put2 {w wx:World} {F K:Nat} {OA T:Array Value} {x y:Value} (h:PpSt w wx F K OA T #[x,y])(a b:Value):PpSt w ((wx.setCell ⟨K+1,0,none⟩ a).setCell ⟨K+1,1,none⟩ b) F K OA T #[a,b]:=by
 have h1:=h.lt;have h2:=h.s.hF;exact⟨⟨(h.s.o.set (by omega) 0 a).set (by omega) 1 b,(h.s.z.set (by omega) 0 a).set (by omega) 1 b,(h.s.f.set (by omega) 0 a).set (by omega) 1 b,(h.s.low.setCell (by show w.heap.size≤K+1;omega) a).setCell (by show w.heap.size≤K+1;omega) b,h2⟩,
  (h.t.set (by omega) 0 a).set (by omega) 1 b,ZdL h.e a b,h1⟩
theorem PpSt.butK {w wx wy:World} {F K:Nat} {OA T T2 FA:Array Value} (h:PpSt w wx F K OA T FA)(hb:But K wx.heap.size wx wy)(ht:Bx wy K T2 74):PpSt w wy F K OA T2 FA:=by
 have h1:=h.lt;have h2:=h.s.hF;exact⟨⟨h.s.o.but hb (by omega),h.s.z.but hb (by omega),h.s.f.but hb (by omega),h.s.low.trans ((hb.mono h.s.low.size).below (by omega)),h2⟩,ht,h.e.but hb (by omega),h1⟩
theorem PpSt.cells {w wx:World} {F K:Nat} {a0 a1 a2 a3 e0 e1:Value} {T:Array Value} (h:PpSt w wx F K #[a0,a1,a2,a3] T #[e0,e1]):
 (wx.cell? ⟨w.heap.size,0,none⟩=some a0∧wx.cell? ⟨w.heap.size,1,none⟩=some a1∧wx.cell? ⟨w.heap.size,2,none⟩=some a2∧wx.cell? ⟨w.heap.size,3,none⟩=some a3)∧
 (wx.cell? ⟨K+1,0,none⟩=some e0∧wx.cell? ⟨K+1,1,none⟩=some e1∧wx.frozen? ⟨K+1,0,none⟩=false∧wx.frozen? ⟨K+1,1,none⟩=false)∧
 (wx.cell? ⟨F,0,none⟩=some (.int .i64 0)∧wx.cell? ⟨F,1,none⟩=some (.int .i64 0)∧wx.frozen? ⟨F,0,none⟩=false∧wx.frozen? ⟨F,1,none⟩=false):=
 ⟨⟨h.s.o.cell 0,h.s.o.cell 1,h.s.o.cell 2,h.s.o.cell 3⟩,⟨h.e.cell 0,h.e.cell 1,h.e.free 0,h.e.free 1⟩,h.s.f.cell 0,h.s.f.cell 1,h.s.f.free 0,h.s.f.free 1⟩
end Go.Proofs.YtlfinljfghhpdaaGreatDoor
