/- Lemmas for TopVersions; conditions: as each says. -/
import Derived.Deep.MidRow
import Derived.Great.Walk
import Derived.Test.YtlhllehffkoloaaGreatDoorM31
set_option linter.unusedVariables false
set_option linter.unusedSimpArgs false
set_option maxRecDepth 100000
set_option maxHeartbeats 1000000
namespace Go.Proofs.YtlhllehffkoloaaGreatDoor
open Go Go.RowKit
def Zjz:List Value:=[.string ⟨#[73,68,51]⟩,.int .i64 1,.string ⟨#[79,103,103,83]⟩,.int .i64 2,.string ⟨#[102,76,97,67]⟩,.int .i64 3]
def ZhU (w:World):Prop:=w.rangeAt 0 0 Zjz
theorem Zvs (w:World):(Instr.index 112 (.agg #[.string ⟨#[73,68,51]⟩,.int .i64 1,.string ⟨#[79,103,103,83]⟩,.int .i64 2,.string ⟨#[102,76,97,67]⟩,.int .i64 3]) (.int .i64 0)).run Tryz.prog w= .ok (.agg #[.string ⟨#[73,68,51]⟩,.int .i64 1]) w:=by
 obtain⟨info,h1,h2⟩:=Option.map_eq_some_iff.1 (show(Tryz.prog.info? 111).map (·.size)=some 2 by kernel_rfl);have hs:(Go.sizeOf 111).run Tryz.prog w= .ok 2 w:=by simp [Go.sizeOf,Ev.run_ti h1,h2]
 simp [Instr.index,asIntOf,Ev.run_und Tryz.underlying112,hs,part]
theorem ZpJ (l:List UInt8)(h3:l.take 3=ZT)(w:World)(hS:ZhU w):
 Calls Tryz.prog 24 #[.string (B l)] w fun e w'=>e= .returned (.tuple #[.int .i64 1,.bool true])∧Below w.heap.size w w':=by
 have hp:Lib.hasPrefix l [73,68,51]=true:=by
  match l,h3 with
  |x::y::z::r,h3=>
   simp only [List.take_succ_cons,List.take_zero,ZT,List.cons.injEq,and_true] at h3;obtain⟨rfl,rfl,rfl⟩:=h3;rfl
 have h1:∀w,Calls Tryz.prog 52 #[.string (B l),.string ⟨#[73,68,51]⟩] w fun e w'=>e= .returned (.bool true)∧w=w':=fun w=>(Tryz.strings_HasPrefix (B l) _ w).mono fun e w' h=>⟨by rw [h.1,Za5,hp],h.2.symm⟩
 have hu:=Tryz.underlying112;go_enter Tryz.func24,Tryz.ntmps24
 go_wp2_with (first
  |(refine wpList_load_mid rfl 112 _ rfl 0 0 rfl Zjz _ hS hu rfl (by kernel_rfl) ?_;rw [show Zjz.toArray=(#[.string ⟨#[73,68,51]⟩,.int .i64 1,.string ⟨#[79,103,103,83]⟩,.int .i64 2,.string ⟨#[102,76,97,67]⟩,.int .i64 3]:Array Value) from rfl])
  |(go_at_call 52;refine(h1 _).mono ?_;rintro e w1 ⟨rfl,rfl⟩))
 refine wp_loop_rounds 1 ?_;rw [rounds_succ];go_wp2_with (first
  |(go_at_call 52;refine(h1 _).mono ?_;rintro e w1 ⟨rfl,rfl⟩))
 rename_i hK
 rw [Zvs];refine hK _ _ ?_;clear hK;go_wp2_with (go_at_call 52;refine(h1 _).mono ?_;rintro e w1 ⟨rfl,rfl⟩)
 go_ret2
 exact⟨rfl,(Below.refl _ _).alloc (Nat.le_refl _) _⟩
theorem ZpL (c:Int)(w:World):Calls Tryz.prog 47 #[.int .i64 c] w fun e w'=>e= .returned (.bool (decide (0≤c∧c≤6)))∧w=w':=by
 by_cases h0:0≤c
 · by_cases h6:c≤6
   · rw [decide_eq_true ⟨h0,h6⟩];go_enter Tryz.func47,Tryz.ntmps47
     go_wp2_with fail
     go_ret
     exact⟨rfl,rfl⟩
   · rw [decide_eq_false fun h=>h6 h.2];go_enter Tryz.func47,Tryz.ntmps47
     go_wp2_with fail
     go_ret
     exact⟨rfl,rfl⟩
 · rw [decide_eq_false fun h=>h0 h.1];go_enter Tryz.func47,Tryz.ntmps47
   go_wp2_with fail
   go_ret
   exact⟨rfl,rfl⟩
theorem ZpK (c:Int)(w:World):Calls Tryz.prog 46 #[.int .i64 c] w fun e w'=>e= .returned (.bool (decide (1≤c∧c≤7)))∧w=w':=by
 by_cases h0:1≤c
 · by_cases h6:c≤7
   · rw [decide_eq_true ⟨h0,h6⟩];go_enter Tryz.func46,Tryz.ntmps46
     go_wp2_with fail
     go_ret
     exact⟨rfl,rfl⟩
   · rw [decide_eq_false fun h=>h6 h.2];go_enter Tryz.func46,Tryz.ntmps46
     go_wp2_with fail
     go_ret
     exact⟨rfl,rfl⟩
 · rw [decide_eq_false fun h=>h0 h.1];go_enter Tryz.func46,Tryz.ntmps46
   go_wp2_with fail
   go_ret
   exact⟨rfl,rfl⟩
def Zjk (kd fb bud:Int):Bool:=decide ((kd=0∨1≤kd∧kd≤7)∧(0≤fb∧fb≤6)∧0≤bud∧bud≤268435456)
theorem Zqo (kd fb bud:Int)(det:Bool)(w:World):Calls Tryz.prog 22 #[.agg #[.int .i64 kd,.int .i64 fb,.bool det,.int .i64 bud]] w fun e w'=>e= .returned (.bool (Zjk kd fb bud))∧Below w.heap.size w w':=by
 have hlg:=fun w=>ZpL fb w;have hkn:=fun w=>ZpK kd w;have hB:Below w.heap.size w (w.alloc (.cells #[.int .i64 kd,.int .i64 fb,.bool det,.int .i64 bud] 46)):=(Below.refl _ _).alloc (Nat.le_refl _) _;unfold Zjk;by_cases hk:kd=0
 · subst hk;by_cases hf:0≤fb∧fb≤6
   · rw [decide_eq_true hf] at hlg;by_cases h0:0≤bud
     · by_cases h1:bud≤268435456
       · rw [decide_eq_true ⟨.inl rfl,hf,h0,h1⟩];clear hkn hf;go_enter Tryz.func22,Tryz.ntmps22
         go_wp2_with (go_at_call 47;refine(hlg _).mono ?_;rintro e w1 ⟨rfl,rfl⟩)
         go_ret
         exact⟨rfl,hB⟩
       · rw [decide_eq_false fun h=>h1 h.2.2.2];clear hkn hf;go_enter Tryz.func22,Tryz.ntmps22
         go_wp2_with (go_at_call 47;refine(hlg _).mono ?_;rintro e w1 ⟨rfl,rfl⟩)
         go_ret
         refine⟨?_,hB⟩;show Ending.returned (.bool (decide (bud≤268435456)))=_
         rw [decide_eq_false (by omega)]
     · rw [decide_eq_false fun h=>h0 h.2.2.1];clear hkn hf;go_enter Tryz.func22,Tryz.ntmps22
       go_wp2_with (go_at_call 47;refine(hlg _).mono ?_;rintro e w1 ⟨rfl,rfl⟩)
       go_ret
       exact⟨rfl,hB⟩
   · rw [decide_eq_false hf] at hlg;rw [decide_eq_false fun h=>hf h.2.1];clear hkn hf;go_enter Tryz.func22,Tryz.ntmps22
     go_wp2_with (go_at_call 47;refine(hlg _).mono ?_;rintro e w1 ⟨rfl,rfl⟩)
     go_ret
     exact⟨rfl,hB⟩
 · by_cases hkk:1≤kd∧kd≤7
   · rw [decide_eq_true hkk] at hkn;by_cases hf:0≤fb∧fb≤6
     · rw [decide_eq_true hf] at hlg;by_cases h0:0≤bud
       · by_cases h1:bud≤268435456
         · rw [decide_eq_true ⟨.inr hkk,hf,h0,h1⟩];clear hkk hf;go_enter Tryz.func22,Tryz.ntmps22
           go_wp2_with (first|(go_at_call 47;refine(hlg _).mono ?_;rintro e w1 ⟨rfl,rfl⟩)|(go_at_call 46;refine(hkn _).mono ?_;rintro e w1 ⟨rfl,rfl⟩))
           go_ret
           exact⟨rfl,hB⟩
         · rw [decide_eq_false fun h=>h1 h.2.2.2];clear hkk hf;go_enter Tryz.func22,Tryz.ntmps22
           go_wp2_with (first|(go_at_call 47;refine(hlg _).mono ?_;rintro e w1 ⟨rfl,rfl⟩)|(go_at_call 46;refine(hkn _).mono ?_;rintro e w1 ⟨rfl,rfl⟩))
           go_ret
           refine⟨?_,hB⟩;show Ending.returned (.bool (decide (bud≤268435456)))=_
           rw [decide_eq_false (by omega)]
       · rw [decide_eq_false fun h=>h0 h.2.2.1];clear hkk hf;go_enter Tryz.func22,Tryz.ntmps22
         go_wp2_with (first|(go_at_call 47;refine(hlg _).mono ?_;rintro e w1 ⟨rfl,rfl⟩)|(go_at_call 46;refine(hkn _).mono ?_;rintro e w1 ⟨rfl,rfl⟩))
         go_ret
         exact⟨rfl,hB⟩
     · rw [decide_eq_false hf] at hlg;rw [decide_eq_false fun h=>hf h.2.1];clear hkk hf;go_enter Tryz.func22,Tryz.ntmps22
       go_wp2_with (first|(go_at_call 47;refine(hlg _).mono ?_;rintro e w1 ⟨rfl,rfl⟩)|(go_at_call 46;refine(hkn _).mono ?_;rintro e w1 ⟨rfl,rfl⟩))
       go_ret
       exact⟨rfl,hB⟩
   · rw [decide_eq_false hkk] at hkn;rw [decide_eq_false fun h=>h.1.elim hk hkk];clear hkk;go_enter Tryz.func22,Tryz.ntmps22
     go_wp2_with (first|(go_at_call 47;refine(hlg _).mono ?_;rintro e w1 ⟨rfl,rfl⟩)|(go_at_call 46;refine(hkn _).mono ?_;rintro e w1 ⟨rfl,rfl⟩))
     go_ret
     exact⟨rfl,hB⟩
theorem Zq0 (T:Array Value)(hs:T.size=25)(hk:T[0]? =some (.int .i64 1))(s:ByteArray)(x y:Int)(w:World)
 (h:∀wx,Below w.heap.size w wx→Calls Tryz.prog 48 #[.agg T] wx fun e w'=>e= .returned (.tuple #[.string s,.agg #[.int .i64 x,.int .i64 y]])∧Below wx.heap.size wx w'):
 Calls Tryz.prog 23 #[.agg T] w fun e w'=>e= .returned (.tuple #[.string s,.agg #[.int .i64 x,.int .i64 y]])∧Below w.heap.size w w':=by
 have hB0:Below w.heap.size w ((w.alloc (.cells T 67)).alloc (.cells #[.int .i64 0,.int .i64 0] 39)):=((Below.refl _ _).alloc (Nat.le_refl _) _).alloc (by simp) _;have HB0:=Lib.hid hB0;have h2:=h _ hB0;have bx:Bx ((w.alloc (.cells T 67)).alloc (.cells #[.int .i64 0,.int .i64 0] 39)) w.heap.size T 67:=(Bx.new w _ _).alloc _;have c0:((w.alloc (.cells T 67)).alloc (.cells #[.int .i64 0,.int .i64 0] 39)).cell? ⟨w.heap.size,0,none⟩=some (.int .i64 1):=by rw [bx.cell 0,hk]
 clear h hB0;go_enter Tryz.func23,Tryz.ntmps23
 go_wp2_with (first
  |(refine wpList_load_row rfl 67 _ rfl w.heap.size rfl 67 T (0,0) _ bx Tryz.underlying67 rfl (by rw [hs];kernel_rfl) ?_)
  |(go_at_call 48;refine h2.mono ?_;clear h2;rintro e w1 ⟨rfl,hb⟩;have hq:=F2 hb;rw [World.size_alloc] at hq;have HF:=Lib.hid hq;have HB:=Lib.hid (HB0.out.trans (hb.mono HB0.out.size));obtain⟨q0,q1,f0,f1⟩:=Zb6 hq;clear hb hq))
 refine bodyPost_ret (v:= .tuple #[.string s,.agg #[.int .i64 x,.int .i64 y]]) ?_ rfl ⟨rfl,?_⟩
 · have h1:Bx w1 (w.heap.size+1) #[.int .i64 0,.int .i64 0] 39:=HF.out;have h3:=(h1.put 0 (.int .i64 x)).put 1 (.int .i64 y);have p0:=h3.cell 0;have p1:=h3.cell 1;simp only [Array.getElem?_setIfInBounds] at p0 p1;simp [results,Tryz.results23,go_sem,p0,p1]
 · exact(HB.out.setCell (Nat.le_succ _) _).setCell (Nat.le_succ _) _
structure NoSt (w wx:World)(kd fb:Int)(det:Bool):Prop where
 o:Bx wx w.heap.size #[.int .i64 kd,.int .i64 fb,.bool det,.int .i64 0] 46
 f:Bx wx (w.heap.size+1) #[.int .i64 0,.int .i64 0] 39
 low:Below w.heap.size w wx
theorem NoSt.below {w wx wy:World} {kd fb:Int} {det:Bool} (h:NoSt w wx kd fb det)(hb:Below wx.heap.size wx wy):NoSt w wy kd fb det:=⟨h.o.below hb,h.f.below hb,h.low.trans (hb.mono h.low.size)⟩
theorem NoSt.cells {w wx:World} {kd fb:Int} {det:Bool} (h:NoSt w wx kd fb det):(wx.cell? ⟨w.heap.size,0,none⟩=some (.int .i64 kd)∧wx.cell? ⟨w.heap.size,1,none⟩=some (.int .i64 fb)∧wx.cell? ⟨w.heap.size,2,none⟩=some (.bool det)∧wx.cell? ⟨w.heap.size,3,none⟩=some (.int .i64 0))∧
 wx.cell? ⟨w.heap.size+1,0,none⟩=some (.int .i64 0)∧wx.cell? ⟨w.heap.size+1,1,none⟩=some (.int .i64 0)∧wx.frozen? ⟨w.heap.size+1,0,none⟩=false∧wx.frozen? ⟨w.heap.size+1,1,none⟩=false:=
 ⟨⟨by rw [h.o.cell 0];rfl,by rw [h.o.cell 1];rfl,by rw [h.o.cell 2];rfl,by rw [h.o.cell 3];rfl⟩,by rw [h.f.cell 0];rfl,by rw [h.f.cell 1];rfl,h.f.free 0,h.f.free 1⟩
structure NfSt (w w2 wx:World)(kd fb:Int)(det:Bool)(T:Array Value)(p q:Value):Prop where
 s:NoSt w wx kd fb det
 t:Bx wx w2.heap.size T 67
 f:Bx wx (w2.heap.size+1) #[p,q] 39
 low:Below w2.heap.size w2 wx
 lt:w.heap.size+2≤w2.heap.size
theorem NfSt.below {w w2 wx wy:World} {kd fb:Int} {det:Bool} {T:Array Value} {p q:Value} (h:NfSt w w2 wx kd fb det T p q)(hb:Below wx.heap.size wx wy):NfSt w w2 wy kd fb det T p q:=
 ⟨h.s.below hb,h.t.below hb,h.f.below hb,h.low.trans (hb.mono h.low.size),h.lt⟩
theorem NfSt.put {w w2 wx:World} {kd fb:Int} {det:Bool} {T:Array Value} {p q:Value} (h:NfSt w w2 wx kd fb det T p q)(x y:Value):NfSt w w2 ((wx.setCell ⟨w2.heap.size+1,0,none⟩ x).setCell ⟨w2.heap.size+1,1,none⟩ y) kd fb det T x y:=by
 have hl:=h.lt;exact⟨⟨(h.s.o.set (by omega) 0 x).set (by omega) 1 y,(h.s.f.set (by omega) 0 x).set (by omega) 1 y,(h.s.low.setCell (by show w.heap.size≤w2.heap.size+1;omega) _).setCell (by show w.heap.size≤w2.heap.size+1;omega) _⟩,
  (h.t.set (by omega) 0 x).set (by omega) 1 y,(h.f.put 0 x).put 1 y,(h.low.setCell (Nat.le_succ _) _).setCell (Nat.le_succ _) _,h.lt⟩
theorem NfSt.cells {w w2 wx:World} {kd fb:Int} {det:Bool} {T:Array Value} {p q:Value} (h:NfSt w w2 wx kd fb det T p q):((wx.cell? ⟨w.heap.size,0,none⟩=some (.int .i64 kd)∧wx.cell? ⟨w.heap.size,1,none⟩=some (.int .i64 fb)∧wx.cell? ⟨w.heap.size,2,none⟩=some (.bool det)∧wx.cell? ⟨w.heap.size,3,none⟩=some (.int .i64 0))∧
 wx.cell? ⟨w.heap.size+1,0,none⟩=some (.int .i64 0)∧wx.cell? ⟨w.heap.size+1,1,none⟩=some (.int .i64 0)∧wx.frozen? ⟨w.heap.size+1,0,none⟩=false∧wx.frozen? ⟨w.heap.size+1,1,none⟩=false)∧
 wx.cell? ⟨w2.heap.size+1,0,none⟩=some p∧wx.cell? ⟨w2.heap.size+1,1,none⟩=some q∧wx.frozen? ⟨w2.heap.size+1,0,none⟩=false∧wx.frozen? ⟨w2.heap.size+1,1,none⟩=false:=⟨h.s.cells,Zb6 h.f⟩
theorem Zfb {P:Program} {ops:Array Oper} {rest:List Oper} {o:Oper} {a:Act} {w:World} {Q:Exit→Act→World→Prop} (hgd:o.guard=none)(ty:TypeId)(x y:Operand)(ho:o.op= .store ty x y)
 (Z F T:Array Value) (tf:TypeId) (hx:a.eval x= .pointer (some ⟨w.heap.size,0,none⟩)) (hy:a.eval y= .agg T) (hi:(P.info? ty).map (·.size)=some T.size) (hold:Z.size=T.size) (h1:T.all (·.oneCell')=true)
 (h:∀W,Bx W w.heap.size T ty→Bx W (w.heap.size+1) F tf→Below w.heap.size w W→wpList P ops Q rest (a.put o.dst undef) W):wpList P ops Q (o::rest) a ((w.alloc (.cells Z ty)).alloc (.cells F tf)):=by
 have b0:Bx ((w.alloc (.cells Z ty)).alloc (.cells F tf)) w.heap.size Z ty:=(Bx.new w Z ty).alloc _;have b1:Bx ((w.alloc (.cells Z ty)).alloc (.cells F tf)) (w.heap.size+1) F tf:=by have:=Bx.new (w.alloc (.cells Z ty)) F tf;rw [World.size_alloc] at this;exact this
 refine wpList_store_row hgd ty x y ho w.heap.size T hx hy ty Z b0 hi hold h1 (h _ (b0.row T) (b1.rowO (by omega) T) ?_);exact Zld (((Below.refl _ _).alloc (Nat.le_refl _) _).alloc (by simp) _) (Nat.le_refl _) T
theorem ZpS (b:ByteArray)(hb0:b.size≤268435456)(kd fb:Int)(det:Bool)(hr:Zjk kd fb 0=true)(text:ByteArray)(ht:text.size≤268435456)(R:Array Value→World→Prop)(hR:∀T w1 w2,R T w1→Below w1.heap.size w1 w2→R T w2)(w:World)
 (hp:∀wx,Below w.heap.size w wx→Calls Tryz.prog 10 #[.string b,.agg #[.int .i64 kd,.int .i64 fb,.bool det,.int .i64 0]] wx fun e w'=>∃T,e= .returned (.tuple #[.agg T,.agg #[.int .i64 0,.int .i64 0]])∧(T.size=25∧T.all (·.oneCell')=true)∧R T w'∧Below wx.heap.size wx w')
 (hq:∀T wx,T.size=25→R T wx→Calls Tryz.prog 23 #[.agg T] wx fun e w'=>e= .returned (.tuple #[.string text,.agg #[.int .i64 0,.int .i64 0]])∧Below wx.heap.size wx w'):
 Calls Tryz.prog 9 #[.string b,.agg #[.int .i64 kd,.int .i64 fb,.bool det,.int .i64 0]] w fun e w'=>e= .returned (.tuple #[.string text,.agg #[.int .i64 0,.int .i64 0]])∧Below w.heap.size w w':=by
 have hrt:=fun w=>Zqo kd fb 0 det w;rw [hr] at hrt;have hbd:=fun w=>Z0 0 0 rfl w;clear hr;have S0:Hid (NoSt w ((w.alloc (.cells #[.int .i64 kd,.int .i64 fb,.bool det,.int .i64 0] 46)).alloc (.cells #[.int .i64 0,.int .i64 0] 39)) kd fb det):=Lib.hid ⟨(Bx.new w _ _).alloc _,by have:=Bx.new (w.alloc (.cells #[.int .i64 kd,.int .i64 fb,.bool det,.int .i64 0] 46)) #[.int .i64 0,.int .i64 0] 39;rw [World.size_alloc] at this;exact this,((Below.refl _ _).alloc (Nat.le_refl _) _).alloc (by simp) _⟩;go_enter Tryz.func9,Tryz.ntmps9
 go_upto_region 6 with(first
  |(go_at_call 22;refine(hrt _).mono ?_;clear hrt;rintro e w1 ⟨rfl,hb1⟩;have S1:=Lib.hid (S0.out.below hb1);clear hb1;obtain⟨⟨c0,c1,c2,c3⟩,r0,r1,f0,f1⟩:=S1.out.cells)
  |(go_at_call 10;refine(hp _ S1.out.low).mono ?_;clear hp;rintro e w2 ⟨T,rfl,hT,hRT,hb2⟩;have S2:=Lib.hid (S1.out.below hb2);clear hb2 c0 c1 c2 c3 r0 r1 f0 f1;have HT:=Lib.hid hT;have HR:=Lib.hid hRT;clear hT hRT)
  |(refine Zfb rfl 67 _ _ rfl _ _ T 39 rfl rfl (by rw [HT.out.1];kernel_rfl) (by rw [HT.out.1];rfl) HT.out.2 fun w3 hb3 hb4 hb5=> ?_;have S3:Hid (NfSt w w2 w3 kd fb det T _ _):=Lib.hid ⟨S2.out.below hb5,hb3,hb4,hb5,by have:=S2.out.f.lt;omega⟩;clear hb3 hb4 hb5;obtain⟨⟨⟨c0,c1,c2,c3⟩,r0,r1,f0,f1⟩,u0,u1,g0,g1⟩:=S3.out.cells))
 have S4:=Lib.hid (S3.out.put (.int .i64 0) (.int .i64 0));clear S3 S2 S1 S0 c0 c1 c2 c3 r0 r1 f0 f1 u0 u1 g0 g1;generalize (w3.setCell ⟨w2.heap.size+1,0,none⟩ (.int .i64 0)).setCell ⟨w2.heap.size+1,1,none⟩ (.int .i64 0)=w4 at*;obtain⟨⟨⟨c0,c1,c2,c3⟩,r0,r1,f0,f1⟩,u0,u1,g0,g1⟩:=S4.out.cells;go_upto_region 9 with(first
  |(go_at_call 11;refine(hbd _).mono ?_;rintro e w5 ⟨rfl,hb5⟩;have S5:=Lib.hid (S4.out.below hb5);clear hb5 c0 c1 c2 c3 r0 r1 f0 f1 u0 u1 g0 g1;obtain⟨⟨⟨c0,c1,c2,c3⟩,r0,r1,f0,f1⟩,u0,u1,g0,g1⟩:=S5.out.cells)
  |(refine wpList_load_row rfl 67 _ rfl w2.heap.size rfl 67 T (0,0) _ S5.out.t Tryz.underlying67 rfl (by rw [HT.out.1];kernel_rfl) ?_)
  |(go_at_call 23;refine(hq T _ HT.out.1 (hR _ _ _ HR.out S5.out.low)).mono ?_;clear hq;rintro e w6 ⟨rfl,hb6⟩;have S6:=Lib.hid (S5.out.below hb6);clear hb6 c0 c1 c2 c3 r0 r1 f0 f1 u0 u1 g0 g1;obtain⟨⟨⟨c0,c1,c2,c3⟩,r0,r1,f0,f1⟩,u0,u1,g0,g1⟩:=S6.out.cells))
 have S7:=Lib.hid (S6.out.put (.int .i64 0) (.int .i64 0));clear S6 S5 S4 c0 c1 c2 c3 r0 r1 f0 f1 u0 u1 g0 g1;generalize (w6.setCell ⟨w2.heap.size+1,0,none⟩ (.int .i64 0)).setCell ⟨w2.heap.size+1,1,none⟩ (.int .i64 0)=w7 at*;obtain⟨⟨⟨c0,c1,c2,c3⟩,r0,r1,f0,f1⟩,u0,u1,g0,g1⟩:=S7.out.cells;go_wp2_with (go_at_call 11;refine(hbd _).mono ?_;rintro e w8 ⟨rfl,hb8⟩;have S8:=Lib.hid (S7.out.below hb8);clear hb8 c0 c1 c2 c3 r0 r1 f0 f1 u0 u1 g0 g1;obtain⟨⟨⟨c0,c1,c2,c3⟩,r0,r1,f0,f1⟩,u0,u1,g0,g1⟩:=S8.out.cells)
 refine bodyPost_ret (v:= .tuple #[.string text,.agg #[.int .i64 0,.int .i64 0]]) ?_ rfl ⟨rfl,?_⟩
 · have h3:=(S8.out.s.f.put 0 (.int .i64 0)).put 1 (.int .i64 0);have p0:=h3.cell 0;have p1:=h3.cell 1;simp only [Array.getElem?_setIfInBounds] at p0 p1;simp [results,Tryz.results9,go_sem,p0,p1]
 · exact(S8.out.s.low.setCell (Nat.le_succ _) _).setCell (Nat.le_succ _) _
theorem Zke (v:Nat)(f:Fr)(hid:f.id.length≤100000)(w:World):
 Calls Tryz.prog 57 #[.int .i64 v,.agg #[.string (B f.id),.int .u8 f.st.toNat,.int .u8 f.fm.toNat,.int .u8 f.grp.toNat,.string (B f.body),.int .i64 f.at_]] w fun e w'=>e= .returned (.bool (!decide (Zf v f.id=[])))∧Below w.heap.size w w':=by
 have hla:=fun w=>Zgg v f.id hid w;have hB:Below w.heap.size w (w.alloc (.cells #[.string (B f.id),.int .u8 f.st.toNat,.int .u8 f.fm.toNat,.int .u8 f.grp.toNat,.string (B f.body),.int .i64 f.at_] 33)):=(Below.refl _ _).alloc (Nat.le_refl _) _;have HB:=Lib.hid hB;by_cases h0:Zf v f.id=[]
 · rw [h0,show B (Zo [])=⟨#[]⟩ from rfl] at hla;rw [decide_eq_true h0];clear h0 hB;go_enter Tryz.func57,Tryz.ntmps57
   go_wp2_with (go_at_call 119;refine(hla _).mono ?_;rintro e w1 ⟨rfl,rfl⟩)
   go_ret
   exact⟨rfl,HB.out⟩
 · have hne:(B (Zo (Zf v f.id))).toList.isEmpty=false:=Zft (by unfold Zo;intro h;exact h0 (List.map_eq_nil_iff.1 h));rw [decide_eq_false h0];generalize B (Zo (Zf v f.id))=s at*;clear h0 hB;go_enter Tryz.func57,Tryz.ntmps57
   go_wp2_with (go_at_call 119;refine(hla _).mono ?_;rintro e w1 ⟨rfl,rfl⟩)
   go_ret
   exact⟨rfl,HB.out⟩
structure It where
 f:Fr
 ps:List Pi
theorem ZuN {B0:Nat} {w:World} {v:Value} {l:List Pt} (h:Zg ptL B0 w v l):Zg piL B0 w v (l.map ZdA):=by
 unfold Zg at h⊢;rw [ZuO,List.length_map,ne_eq,List.map_eq_nil_iff] at*;exact h
def itV (x:It×Value):List Value:=[.string (B x.1.f.id),.int .u8 x.1.f.st.toNat,.int .u8 x.1.f.fm.toNat,.int .u8 x.1.f.grp.toNat,.string (B x.1.f.body),.int .i64 x.1.f.at_,x.2]
theorem Ztl (x:It×Value):(itV x).length=7:=rfl
def Zaq (B0:Nat)(w:World)(v:Value)(l:List It):Prop:=∃xs:List (It×Value),xs.map (·.1)=l∧Zg itV B0 w v xs∧∀x∈xs,Zg piL B0 w x.2 x.1.ps
theorem Zaq.below {B0:Nat} {w w':World} {v:Value} {l:List It} (h:Zaq B0 w v l)(hb:Below w.heap.size w w'):Zaq B0 w' v l:=by
 obtain⟨xs,h1,h2,h3⟩:=h;exact⟨xs,h1,h2.below hb,fun x hx=>(h3 x hx).below hb⟩
theorem Zaq.low {B0 B1:Nat} {w:World} {v:Value} {l:List It} (h:Zaq B0 w v l)(hb:B1≤B0):Zaq B1 w v l:=by
 obtain⟨xs,h1,h2,h3⟩:=h;exact⟨xs,h1,h2.low hb,fun x hx=>(h3 x hx).low hb⟩
theorem Zaq.len {B0:Nat} {w:World} {v:Value} {l:List It} (h:Zaq B0 w v l):∃A c,v= .slice A l.length c∧l.length≤c:=by
 obtain⟨xs,rfl,h2,h3⟩:=h;rw [List.length_map];exact h2.len
theorem Zg.at7 {w:World} {bk:Nat} {l:List (It×Value)} (h:∀j u,(l.flatMap itV)[j]? =some u→w.cell? ⟨bk,j,none⟩=some u){k:Nat} {x:It×Value} (hx:l[k]? =some x):
 w.cell? ⟨bk,k*7,none⟩=some (.string (B x.1.f.id))∧w.cell? ⟨bk,k*7+1,none⟩=some (.int .u8 x.1.f.st.toNat)∧w.cell? ⟨bk,k*7+2,none⟩=some (.int .u8 x.1.f.fm.toNat)∧w.cell? ⟨bk,k*7+3,none⟩=some (.int .u8 x.1.f.grp.toNat)∧w.cell? ⟨bk,k*7+4,none⟩=some (.string (B x.1.f.body))∧w.cell? ⟨bk,k*7+5,none⟩=some (.int .i64 x.1.f.at_)∧w.cell? ⟨bk,k*7+6,none⟩=some x.2:=by
 have q:∀j,j<7→(l.flatMap itV)[k*7+j]? =(itV x)[j]?:=fun j hj=>ZgE 7 itV Ztl l k j x hx hj;exact⟨h _ _ (q 0 (by decide)),h _ _ (q 1 (by decide)),h _ _ (q 2 (by decide)),h _ _ (q 3 (by decide)),h _ _ (q 4 (by decide)),h _ _ (q 5 (by decide)),h _ _ (q 6 (by decide))⟩
theorem Ztm:(Tryz.prog.info? 72).map (fun i=>(i.zero,i.size,i.bytes))=some (some (.agg #[.string ⟨#[]⟩,.int .u8 0,.int .u8 0,.int .u8 0,.string ⟨#[]⟩,.int .i64 0,.slice none 0 0]),7,80):=by kernel_rfl
section
variable {ops:Array Oper} {rest:List Oper} {o:Oper} {a:Act} {Q:Exit→Act→World→Prop}
theorem Zk5 (hgd:o.guard=none)(s x:Operand)(ho:o.op= .call {callee:= .builtin .append,args:=#[s,x],argTypes:=#[47,47]}) (base:Nat) (v:Value) (L:List (It×Value)) (hs:a.eval s=v) (W:World) (p:It×Value) (cs:Array Value) (hcs:cs=(itV p).toArray) (h1:p.2.oneCell'=true)
 (hown:W.ownsRow base 72 7 v L.length (L.flatMap itV)) (hbase:base≤W.heap.size) (hlen:L.length≤16777216) (hx:a.eval x= .slice (some ⟨W.heap.size,0,none⟩) 1 1)
 (h:∀v' w',Hid (w'.ownsRow base 72 7 v' (L++[p]).length ((L++[p]).flatMap itV))→Below base W w'→W.grownBy w' v.ownBlock→wpList Tryz.prog ops Q rest (a.put o.dst v') w'):
 wpList Tryz.prog ops Q (o::rest) a (W.alloc (.cells cs 72)):=by
 obtain⟨i0,hi,iz0,iz1,iz2⟩:=info_parts Ztm;rw [hcs];refine wpList_append_own _ hgd s x 47 ho base 72 i0 _ 7 80 Tryz.underlying47 hi iz0 iz1 iz2 rfl (by decide) v L.length _ hs (hown.alloc _) ⟨W.heap.size,0,none⟩ 1 1 (itV p) hx rfl (ZfP W (itV p) _) ?_ (by unfold maxLen;omega) (by omega) (by simp;omega) ?_
 · intro u hu;simp only [itV,List.mem_cons,List.not_mem_nil,or_false] at hu;rcases hu with rfl|rfl|rfl|rfl|rfl|rfl|rfl<;>first|rfl|exact h1
 · intro v6 w6 hown6 hg6 _;refine h v6 w6 (Lib.hid ?_) (Z7 ((Below.refl _ W).alloc hbase _) (hown.alloc _) hg6 (by simp;omega) (Nat.le_refl _)) ⟨hg6.os,hg6.tape,hg6.output,by have:=hg6.size;simp at this;omega,fun k hk hc=>(hg6.block k (by simp;omega) hc).trans (Below.heap_alloc _ _ _ hk)⟩;rw [List.flatMap_append,List.length_append];simpa [itV] using hown6
end
theorem Zny {base B0:Nat} {W W':World} {v s:Value} {L:List (It×Value)} {ps:List Pi} (hown:W.ownsRow base 72 7 v L.length (L.flatMap itV))(hn:L=[]→v= .slice none 0 0)(hg:W.grownBy W' v.ownBlock)(h:Zg piL B0 W s ps):Zg piL B0 W' s ps:=by
 rcases h with h|⟨bk,c,h0,h1,h2,h5,h3,h4⟩
 · exact .inl h
 · have hne:v.ownBlock≠some bk:=by
    intro e;by_cases hL:L=[]
    · rw [hn hL] at e;cases e
    · obtain⟨x,hx⟩:∃x,L[0]? =some x:=by
       cases L with
       |nil=>exact absurd rfl hL
       |cons a l=>exact⟨a,rfl⟩
      rcases Zg.of_own (f:=itV) rfl hown hn with⟨q,_⟩|⟨g,cap,q0,q1,q2,q3,q4,q5⟩
      · exact hL q
      · subst q1;have hgb:g=bk:=by simpa [Value.ownBlock] using e
        subst hgb;have a1:=(Zg.at7 q5 hx).2.1;obtain⟨p,hp⟩:∃p,ps[0]? =some p:=by
         cases ps with
         |nil=>exact absurd rfl h0
         |cons a l=>exact⟨a,rfl⟩
        have a2:=(Zg.at4 h4 hp).2.1;simp only [Nat.zero_mul] at a1 a2;rw [a1] at a2;cases a2
   refine .inr ⟨bk,c,h0,h1,h2,h5,Nat.lt_of_lt_of_le h3 hg.size,fun j u hu=> ?_⟩;have hb:=hg.block bk h3 (fun e=>hne e.symm);rw [←h4 j u hu];unfold World.cell?;rw [hb]
def T67 (kd:Int)(v:Nat)(r f:UInt8)(it:Value)(s:List UInt8):Array Value:=#[.int .i64 kd,.int .i64 v,.int .u8 r.toNat,.int .u8 f.toNat,it,.string (B s),
 .int .u8 0,.int .u64 0,.int .u32 0,.int .u32 0,.string ⟨#[]⟩,.string ⟨#[]⟩,.string ⟨#[]⟩,.int .i64 0,.slice none 0 0,.string ⟨#[]⟩,.slice none 0 0,
 .slice none 0 0,.string ⟨#[]⟩,.int .i64 0,.slice none 0 0,.int .i64 0,.string ⟨#[]⟩,.slice none 0 0,.int .i64 0]
theorem Zol (kd:Int)(v:Nat)(r f:UInt8)(it:Value)(s:List UInt8):(T67 kd v r f it s).size=25:=rfl
theorem ZcT (kd:Int)(v:Nat)(r f:UInt8)(it:Value)(s:List UInt8)(h:it.oneCell'=true):(T67 kd v r f it s).all (·.oneCell')=true:=by
 unfold T67;simp [h]
 repeat (first|exact rfl|refine And.intro rfl ?_)
theorem t67_it (kd:Int)(v:Nat)(r f:UInt8)(it it2:Value)(s:List UInt8):(T67 kd v r f it s).setIfInBounds 4 it2=T67 kd v r f it2 s:=rfl
theorem t67_kd (kd k2:Int)(v:Nat)(r f:UInt8)(it:Value)(s:List UInt8):(T67 kd v r f it s).setIfInBounds 0 (.int .i64 k2)=T67 k2 v r f it s:=rfl
theorem ZjS {P:Program} {ops:Array Oper} {rest:List Oper} {o:Oper} {a:Act} {w:World} {Q:Exit→Act→World→Prop} (hg:o.guard=none)(t:TypeId)(parts:Array (Nat×Operand))(ho:o.op= .build t parts)(v:Array Value)
 (hf:P.built t (parts.map fun(i,x)=>(i,a.eval x)).toList=some v)
 (h:wpList P ops Q rest (a.put o.dst (.agg v)) w):wpList P ops Q (o::rest) a w:=
 wpList_build hg t parts ho (by rw [hf];rfl) (by rw [hf];exact h)
theorem Zji {P:Program} {fn:Func} {p q:Tmp} {ty ty2:TypeId} (h:fn.results=#[.cell p ty,.cell q ty2])(tmps:Array Value)(w:World)(g k:Nat)(T T2:TypeId)(cs cs2:Array Value)(fr fr2:Nat×Nat)(d d2:TypeDesc)
 (hp:tmps.getD p undef= .pointer (some ⟨g,0,none⟩)) (hq:tmps.getD q undef= .pointer (some ⟨k,0,none⟩)) (hg:w.heap[g]? =some (.cells cs T fr)) (hk:w.heap[k]? =some (.cells cs2 T2 fr2))
 (hu:P.underlying ty=some d) (hd:(match d with| .struct _| .array _ _=>true|_=>false)=true) (hi:(P.info? ty).map (·.size)=some cs.size)
 (hu2:P.underlying ty2=some d2) (hd2:(match d2 with| .struct _| .array _ _=>true|_=>false)=true) (hi2:(P.info? ty2).map (·.size)=some cs2.size):
 (results fn tmps).run P w= .ok (.tuple #[.agg cs,.agg cs2]) w:=by
 have hp':tmps[p]?.getD undef= .pointer (some ⟨g,0,none⟩):=by simpa using hp
 have hq':tmps[q]?.getD undef= .pointer (some ⟨k,0,none⟩):=by simpa using hq
 simp [results,h,hp',hq',asAddr,run_loadVar_row w g T ty cs fr d hg hu hd hi,run_loadVar_row w k T2 ty2 cs2 fr2 d2 hk hu2 hd2 hi2]
theorem ZuJ {P:Program} {fn:Func} {p t:Tmp} {ty:TypeId} (h:fn.results=#[.cell p ty,.tmp t])(tmps:Array Value)(w:World)(g:Nat)(T:TypeId)(cs:Array Value)(fr:Nat×Nat)(d:TypeDesc)(u:Value)
 (hp:tmps.getD p undef= .pointer (some ⟨g,0,none⟩)) (ht:tmps.getD t undef=u) (hg:w.heap[g]? =some (.cells cs T fr))
 (hu:P.underlying ty=some d) (hd:(match d with| .struct _| .array _ _=>true|_=>false)=true) (hi:(P.info? ty).map (·.size)=some cs.size):
 (results fn tmps).run P w= .ok (.tuple #[.agg cs,u]) w:=by
 have hp':tmps[p]?.getD undef= .pointer (some ⟨g,0,none⟩):=by simpa using hp
 have ht':tmps[t]?.getD undef=u:=by simpa using ht
 simp [results,h,hp',ht',asAddr,run_loadVar_row w g T ty cs fr d hg hu hd hi]
noncomputable def ZfG (wd:Nat→List UInt8→Except (Nat×Nat) (List UInt8×Nat))(v:Nat)(f:Fr):Option It:=
 if Zf v f.id=[] then some ⟨f,[]⟩ else if ZU v f.fm=true then none else
 match Zcp wd v f.id f.body with| .error _=>none| .ok l=>some ⟨{f with body:=[]},l.map ZdA⟩
def Z1 (v:Nat):List UInt8:=if v=2 then [84,84,50] else [84,73,84,50]
def ZaI (v:Nat)(t:List UInt8):List UInt8:=if v=4 then 3::t else 1::enU t
def flT (sp:Bool):UInt8:=if sp then 128 else 0
def fmT (v:Nat)(sp:Bool):UInt8:=if v=4 then(if sp then 2 else 0) else 0
def frT (v:Nat)(sp:Bool)(t:List UInt8)(a:Nat):Fr:=⟨Z1 v,0,fmT v sp,0,ZaI v t,a⟩
def tgT (v:Nat)(sp:Bool)(t:List UInt8)(a:Nat):Tg:=⟨v,0,flT sp,[frT v sp t a]⟩
def Ze8 (v:Nat):Nat:=if v=4 then 7 else 8
def piT (v:Nat)(t:List UInt8):Pi:=ZdA ⟨.text,false,t,Ze8 v⟩
def itT (v:Nat)(sp:Bool)(t:List UInt8)(a:Nat):It:=⟨{frT v sp t a with body:=[]},[piT v t]⟩
section
variable {v:Nat} {sp:Bool} {t:List UInt8} {a:Nat}
theorem Zdb (hv:v=2∨v=3∨v=4):Zf v (Z1 v)=[.text]:=by rcases hv with rfl|rfl|rfl<;>decide
theorem Zl1 {ps:List Int} (hg:Good (B t) ps):enU t=[255,254]++Zl false ps:=by
 unfold enU;rw [show Zb0 t= .inl ps from ZjM hg]
theorem enU_le (hu:ZP t=true)(ht:t.length≤100):(enU t).length≤1000:=by
 unfold ZP at hu;unfold enU;rcases Zeu t with⟨ps,h,e⟩|⟨n,h,e⟩
 · rw [e];have h1:ps.length≤(B t).size:=h.len;have h2:=(Zeb false ps).2;rw [Zn] at h1;show([255,254]++Zl false ps).length≤1000
   simp only [List.length_append,List.length_cons,List.length_nil];omega
 · rw [e] at hu;cases hu
theorem Zjr (hu:ZP t=true)(ht:t.length≤100):(ZaI v t).length≤1001:=by
 unfold ZaI;have:=enU_le hu ht;split<;>simp only [List.length_cons]<;>omega
theorem Zwf (hu:ZP t=true)(fb:Nat)(det:Bool):wdF fb det (ZC v) (if v=4 then t else enU t)= .ok (t,Ze8 v):=by
 unfold ZP at hu;rcases Zeu t with⟨ps,h,e⟩|⟨n,h,e⟩
 · have htx:Zc ps=t:=h.1.symm.trans rfl;by_cases h4:v=4
   · rw [if_pos h4];unfold wdF ZC Ze8;rw [if_pos h4,if_pos h4,if_neg (by decide),if_neg (by decide),if_neg (by decide),e,wdR,htx]
   · rw [if_neg h4,Zl1 h];unfold wdF ZC Ze8;rw [if_neg h4,if_neg h4,if_neg (by decide),if_pos rfl];have hm:Zcb ([255,254]++Zl false ps)= .inl ps:=by
      have hun:Zbh false (Zl false ps)= .inl ps:=Zoq (Zwk false h.2);show(if([255,254]++Zl false ps:List UInt8)=[] then _ else if Zbs ([255,254]++Zl false ps)=false then _ else dplus 2 (Zbh (Zam ([255,254]++Zl false ps)) (([255,254]++Zl false ps).drop 2)))=_
      rw [if_neg (by simp),if_neg (by simp [Zbs])];rw [show Zam ([255,254]++Zl false ps)=false from rfl,show([255,254]++Zl false ps:List UInt8).drop 2=Zl false ps from rfl,hun];rfl
     rw [hm,show Zam ([255,254]++Zl false ps)=false from rfl,wdR,htx];rfl
 · rw [e] at hu;cases hu
theorem ZsD (hv:v=2∨v=3∨v=4)(hu:ZP t=true)(fb:Nat)(det:Bool):Zcp (wdF fb det) v (Z1 v) (ZaI v t)= .ok [⟨.text,false,t,Ze8 v⟩]:=by
 have h:=ZsB (fun en t=>if en=3 then t else enU t) (wdF fb det) v (Z1 v) [⟨.text,false,t,Ze8 v⟩] (by rw [Zdb hv];rfl) (by rw [Zdb hv];simp) (by
  intro q hq;simp only [List.mem_singleton] at hq;subst hq;refine⟨rfl,?_⟩;have:=Zwf (v:=v) hu fb det;rcases hv with rfl|rfl|rfl<;>exact this)
 rw [←h];congr 1
 unfold Zit;rw [if_neg (by rw [Zdb hv];simp)];rcases hv with rfl|rfl|rfl<;>simp [ZaI,ZC,Zbp]
theorem ZsQ {f:Fr} (h:clr f=clr (frT v sp t 0)):f=frT v sp t f.at_:=by
 obtain⟨i,s,m,g,b,a⟩:=f;simp only [clr,frT,Fr.mk.injEq] at h⊢;exact⟨h.1,h.2.1,h.2.2.1,h.2.2.2.1,h.2.2.2.2.1,trivial⟩
theorem ZmN (hv:v=2∨v=3∨v=4):ZU v (frT v sp t a).fm=false:=by
 show ZU v (fmT v sp)=false
 rcases hv with rfl|rfl|rfl<;>cases sp<;>decide
theorem Ztn (hv:v=2∨v=3∨v=4)(hu:ZP t=true)(fb:Nat)(det:Bool):ZfG (wdF fb det) v (frT v sp t a)=some (itT v sp t a):=by
 unfold ZfG;rw [show(frT v sp t a).id=Z1 v from rfl,show(frT v sp t a).body=ZaI v t from rfl,ZsD hv hu,Zdb hv,if_neg (by simp),ZmN hv];rfl
theorem Zi3 (hv:v=2∨v=3∨v=4):okF v (frT v sp t a)=true:=by rcases hv with rfl|rfl|rfl<;>cases sp<;>rfl
theorem ZjV (hv:v=2∨v=3∨v=4):ZbJ v 0 (flT sp)=false:=by rcases hv with rfl|rfl|rfl<;>cases sp<;>rfl
theorem Zls (hv:v=2∨v=3∨v=4):Zcl v 0 (flT sp) [frT v sp t a]=(0,0):=by
 unfold Zcl;rw [ZjV hv,if_neg (by decide)];have hb:ZaS v (flT sp) (frT v sp t a)=false:=by
  unfold ZaS;rw [Zi3 hv];show(!true||(v==4&&(ZL (flT sp)&&fmT v sp&&&2==0)))=false
  rcases hv with rfl|rfl|rfl<;>cases sp<;>decide
 rw [show [frT v sp t a].findIdx? (ZaS v (flT sp))=none by simp [hb]];rfl
theorem Zti (v:Nat)(f:Fr):(Ze v f).length≤5+2*f.body.length:=by
 have:=Zej f.body;have:=Zdt f.body;simp only [Ze,List.length_append];split<;>split<;>split<;>simp [ZR]<;>omega
theorem ZgQ (hu:ZP t=true)(ht:t.length≤100):(Ze v (frT v sp t a)).length≤2007:=by
 have h1:=Zti v (frT v sp t a);have h2:(frT v sp t a).body.length≤1001:=Zjr hu ht;omega
theorem ZuB (hu:ZP t=true)(ht:t.length≤100):(Zv v (frT v sp t a)).length≤3000:=by
 have h1:=ZgQ (v:=v) (sp:=sp) (a:=a) hu ht;have h2:(Z1 v).length≤4:=by unfold Z1;split<;>decide
 have h3:∀n,(ZO v n).length≤4:=by
  intro n;unfold ZO;split
  · rw [ZdZ];omega
  · split
    · rw [ZdZ];omega
    · simp [ZR]
 have h4:(Zag v (frT v sp t a)).length≤2:=by unfold Zag;split<;>simp
 have h5:=h3 (Ze v (frT v sp t a)).length;simp only [Zv,List.length_append];rw [show(frT v sp t a).id=Z1 v from rfl];omega
theorem Zgp (hu:ZP t=true)(ht:t.length≤100):(([frT v sp t a].map (Zv v)).flatten).length≤3000:=by
 have:=ZuB (v:=v) (sp:=sp) (a:=a) hu ht;simpa using this
theorem Zjb (hu:ZP t=true)(ht:t.length≤100):(ZJ (tgT v sp t a)).length≤7000:=by
 have h1:=Zgp (v:=v) (sp:=sp) (a:=a) hu ht;have h2:=Zh5 v 0 (flT sp) [frT v sp t a];have h3:(Zel (tgT v sp t a)).length=7:=rfl;have h4:(Z2 (tgT v sp t a)).length≤6000:=by show(Z2 ⟨v,0,flT sp,[frT v sp t a]⟩).length≤6000;omega
 unfold ZJ;simp only [List.length_append,h3];split<;>simp only [List.length_append,h3,List.length_nil,ZT,Za1,List.length_cons]<;>omega
theorem ZsV (hv:v=2∨v=3∨v=4)(hu:ZP t=true)(ht:t.length≤100):FrOk v (frT v sp t a):=by
 have hi:=ZgQ (v:=v) (sp:=sp) (a:=a) hu ht;refine⟨hv,?_,?_,?_,fun _=>rfl,by omega,fun _=>by omega⟩
 · rcases hv with rfl|rfl|rfl<;>rfl
 · rcases hv with rfl|rfl|rfl<;>rfl
 · rintro rfl;exact⟨rfl,rfl⟩
theorem ZvK (hv:v=2∨v=3∨v=4)(hu:ZP t=true)(ht:t.length≤100):TgOk (tgT v sp t a):=by
 have h1:=Zgp (v:=v) (sp:=sp) (a:=a) hu ht;have h2:=Zh5 v 0 (flT sp) [frT v sp t a];refine⟨hv,by show(0:UInt8)≠255;decide,?_,?_,by show 1≤4096;omega,by show(Z2 ⟨v,0,flT sp,[frT v sp t a]⟩).length<_;omega⟩
 · show flT sp&&& ~~~(Zdp v)=0
   rcases hv with rfl|rfl|rfl<;>cases sp<;>rfl
 · intro f hf;have hf':f=frT v sp t a:=by simpa [tgT] using hf
   subst hf';refine⟨ZsV hv hu ht,?_⟩;show v=4→ZL (flT sp)=true→fmT v sp|||2=fmT v sp
   rintro rfl h;cases sp
   · exact absurd h (by decide)
   · decide
theorem Zup (hv:v=2∨v=3∨v=4)(hu:ZP t=true)(ht:t.length≤100):∃b,ZbU (ZJ (tgT v sp t a))= .ok (some (tgT v sp t b),[]):=by
 obtain⟨l,h1,h2⟩:=ZvH (tgT v sp t a) (ZvK hv hu ht) [];rw [List.append_nil] at h1;have hl:∃b,l=[frT v sp t b]:=by
  match l,h2 with
  |[f],h2=>
   have hf:clr f=clr (frT v sp t 0):=by simpa [tgT,clr,frT] using h2
   exact⟨f.at_,by rw [←ZsQ hf]⟩
  |[],h2=>simp [tgT] at h2
  |_::_::_,h2=>simp [tgT] at h2
 obtain⟨b,rfl⟩:=hl;exact⟨b,h1⟩
theorem ZvI:(ZJ (tgT v sp t a)).take 3=ZT:=rfl
theorem ZrG (hv:v=2∨v=3∨v=4)(hu:ZP t=true):Zd2 v (Z1 v) [piT v t]=(0,0):=by
 unfold Zd2;rw [Zdb hv];show ckL [.text] [piT v t] 0=(0,0)
 have:Zm .text (piT v t)=0:=by
  unfold Zm;rw [if_neg (by show¬(false=true);decide)];show(if ZP t then 0 else 2)=0
  rw [hu];rfl
 simp [ckL,this]
theorem ZuA (hv:v=2∨v=3∨v=4):UInt8.ofNat (ZC v)::prL (ZC v) (Zf v (Z1 v)) [piT v t]=ZaI v t:=by
 rw [Zdb hv];rcases hv with rfl|rfl|rfl<;>simp [prL,enP,tlP,enT,piT,ZdA,ZC,ZaI]
end
end Go.Proofs.YtlhllehffkoloaaGreatDoor
