/- Lemmas for a statement on the tops; conditions: as each says. -/
import Derived.Test.YtnbkfkbcpfkddaaGreatDoorM42
set_option linter.unusedVariables false
set_option linter.unusedSimpArgs false
set_option maxRecDepth 100000
set_option maxHeartbeats 4000000
namespace Go.Proofs.YtnbkfkbcpfkddaaGreatDoor
open Go Go.RowKit
theorem Zl1 (r:List UInt8)(w:World)(hS:ZfO w):
 Calls Tryz.prog 20 #[.string (B (Z9++r))] w fun e w'=>e= .returned (.tuple #[.int .i64 2,.bool true])∧Below w.heap.size w w':=by
 have h1:∀w,Calls Tryz.prog 38 #[.string (B (Z9++r)),.string ⟨#[73,68,51]⟩] w fun e w'=>e= .returned (.bool false)∧w=w':=fun w=>(Tryz.strings_HasPrefix (B (Z9++r)) _ w).mono fun e w' h=>⟨by rw [h.1,Zbw];rfl,h.2.symm⟩
 have h2:∀w,Calls Tryz.prog 38 #[.string (B (Z9++r)),.string ⟨#[79,103,103,83]⟩] w fun e w'=>e= .returned (.bool true)∧w=w':=fun w=>(Tryz.strings_HasPrefix (B (Z9++r)) _ w).mono fun e w' h=>⟨by rw [h.1,Zbw];rfl,h.2.symm⟩
 generalize Z9++r=l at*;have hu:=Tryz.underlying102;go_enter Tryz.func20,Tryz.ntmps20
 go_wp2_with (refine wpList_load_mid rfl 102 _ rfl 0 0 rfl Zhg _ hS hu rfl (by kernel_rfl) ?_;rw [show Zhg.toArray=(#[.string ⟨#[73,68,51]⟩,.int .i64 1,.string ⟨#[79,103,103,83]⟩,.int .i64 2,.string ⟨#[102,76,97,67]⟩,.int .i64 3]:Array Value) from rfl])
 clear hu;refine wp_loop_rounds 2 ?_;rw [rounds_succ];go_wp2_with fail
 rename_i hK
 rw [Zqp];refine hK _ _ ?_;clear hK;go_wp2_with (go_at_call 38;refine(h1 _).mono ?_;rintro e w1 ⟨rfl,rfl⟩)
 rw [rounds_succ];go_wp2_with fail
 rename_i hK
 rw [Zqq];refine hK _ _ ?_;clear hK;go_wp2_with (go_at_call 38;refine(h2 _).mono ?_;rintro e w1 ⟨rfl,rfl⟩)
 go_ret2
 exact⟨rfl,((Below.refl _ _).alloc (Nat.le_refl _) _).alloc (by simp) _⟩
def TO (kd:Int)(a b c d e f g h i j k:Value):Array Value:=#[.int .i64 kd,.int .i64 (0:Nat),.int .u8 (0:UInt8).toNat,.int .u8 (0:UInt8).toNat,.slice none 0 0,.string (B []),
 a,b,c,d,e,f,g,h,i,j,k,
 .slice none 0 0,.string ⟨#[]⟩,.int .i64 0,.slice none 0 0,.int .i64 0,.string ⟨#[]⟩,.slice none 0 0,.int .i64 0]
theorem ZqI:T67 0 0 0 0 (.slice none 0 0) []=TO 0 (.int .u8 0) (.int .u64 0) (.int .u32 0) (.int .u32 0) (.string ⟨#[]⟩) (.string ⟨#[]⟩) (.string ⟨#[]⟩) (.int .i64 0) (.slice none 0 0) (.string ⟨#[]⟩) (.slice none 0 0):=rfl
theorem to_one (kd:Int)(a b c d e f g h i j k:Value)(H:(#[a,b,c,d,e,f,g,h,i,j,k]:Array Value).all (·.oneCell')=true):(TO kd a b c d e f g h i j k).all (·.oneCell')=true:=by
 simp at H;obtain⟨h1,h2,h3,h4,h5,h6,h7,h8,h9,h10,h11⟩:=H;unfold TO;simp [h1,h2,h3,h4,h5,h6,h7,h8,h9,h10,h11]
 repeat (first|exact rfl|refine And.intro rfl ?_)
theorem to_kd (kd k2:Int)(a b c d e f g h i j k:Value):(TO kd a b c d e f g h i j k).setIfInBounds 0 (.int .i64 k2)=TO k2 a b c d e f g h i j k:=rfl
theorem ZmW (T:Array Value)(a b c d e f g h i j k:Value)(hT:T=TO 2 a b c d e f g h i j k)(z:ByteArray)(w:World)
 (H:∀wx,Below w.heap.size w wx→Calls Tryz.prog 7 #[.agg #[a,b,c,d,e,f,g,h,i,j,k]] wx fun e w'=>e= .returned (.tuple #[.string z,.agg #[.int .i64 0,.int .i64 0]])∧Below wx.heap.size wx w'):
 Calls Tryz.prog 25 #[.agg T] w fun e w'=>e= .returned (.tuple #[.string z,.agg #[.int .i64 0,.int .i64 0]])∧Below w.heap.size w w':=by
 have hk:T[0]? =some (.int .i64 2):=by rw [hT];rfl
 have hs:T.size=25:=by rw [hT];rfl
 have hB0:Below w.heap.size w ((w.alloc (.cells T 56)).alloc (.cells #[.int .i64 0,.int .i64 0] 45)):=((Below.refl _ _).alloc (Nat.le_refl _) _).alloc (by simp) _;have HB0:=Lib.hid hB0;have h2:=H _ hB0;have bx:Bx ((w.alloc (.cells T 56)).alloc (.cells #[.int .i64 0,.int .i64 0] 45)) w.heap.size T 56:=(Bx.new w _ _).alloc _;have Hm:Hid (((w.alloc (.cells T 56)).alloc (.cells #[.int .i64 0,.int .i64 0] 45)).rangeAt w.heap.size 6 [a,b,c,d,e,f,g,h,i,j,k]):=Lib.hid (fun j u hu=>by
  have hj:=(List.getElem?_eq_some_iff.1 hu).1;rw [bx.cell (6+j),hT];rw [←hu]
  match j,hj with
  |0,_=>rfl
  |1,_=>rfl
  |2,_=>rfl
  |3,_=>rfl
  |4,_=>rfl
  |5,_=>rfl
  |6,_=>rfl
  |7,_=>rfl
  |8,_=>rfl
  |9,_=>rfl
  |10,_=>rfl)
 have c0:((w.alloc (.cells T 56)).alloc (.cells #[.int .i64 0,.int .i64 0] 45)).cell? ⟨w.heap.size,0,none⟩=some (.int .i64 2):=by rw [bx.cell 0,hk]
 clear H hB0 hT hk;go_enter Tryz.func25,Tryz.ntmps25
 go_wp2_with (first
  |(refine wpList_load_mid rfl 36 _ rfl w.heap.size 6 rfl [a,b,c,d,e,f,g,h,i,j,k] _ Hm.out Tryz.underlying36 rfl (by kernel_rfl) ?_)
  |(go_at_call 7;refine h2.mono ?_;clear h2;rintro e w1 ⟨rfl,hb⟩;have hq:=F2 hb;rw [World.size_alloc] at hq;have HF:=Lib.hid hq;have HB:=Lib.hid (HB0.out.trans (hb.mono HB0.out.size));obtain⟨q0,q1,f0,f1⟩:=Zbn hq;clear hb hq))
 refine bodyPost_ret (v:= .tuple #[.string z,.agg #[.int .i64 0,.int .i64 0]]) ?_ rfl ⟨rfl,?_⟩
 · have h1:Bx w1 (w.heap.size+1) #[.int .i64 0,.int .i64 0] 45:=HF.out;have h3:=(h1.put 0 (.int .i64 0)).put 1 (.int .i64 0);have p0:=h3.cell 0;have p1:=h3.cell 1;simp only [Array.getElem?_setIfInBounds] at p0 p1;simp [results,Tryz.results25,go_sem,p0,p1]
 · exact(HB.out.setCell (Nat.le_succ _) _).setCell (Nat.le_succ _) _
structure OoSt (B0:Nat)(x:Sx)(w:World)(vn vso:Value):Prop where
 ns:Zg nxV B0 w vn (x.ns.map Nx.up)
 so:ZZ pgL B0 w vso x.up.sound
theorem OoSt.below {B0:Nat} {x:Sx} {w w':World} {vl vn:Value} (h:OoSt B0 x w vl vn)(hb:Below w.heap.size w w'):OoSt B0 x w' vl vn:=⟨h.ns.below hb,h.so.below hb⟩
theorem OoSt.but {B0 C:Nat} {x:Sx} {w w':World} {vl vn:Value} (h:OoSt B0 x w vl vn)(hb:But C w.heap.size w w')(hC:C<B0):OoSt B0 x w' vl vn:=⟨h.ns.but hb hC,h.so.but hb hC⟩
theorem OoSt.low {B0 B1:Nat} {x:Sx} {w:World} {vl vn:Value} (h:OoSt B0 x w vl vn)(hb:B1≤B0):OoSt B1 x w vl vn:=⟨h.ns.low hb,h.so.low hb⟩
theorem OoSt.set {B0:Nat} {x:Sx} {w:World} {vl vn:Value} (h:OoSt B0 x w vl vn){g:Nat} (hg:g<B0)(j:Nat)(u:Value):OoSt B0 x (w.setCell ⟨g,j,none⟩ u) vl vn:=h.but ((But.refl g w.heap.size w).setCell (p:=⟨g,j,none⟩) (.inr rfl) u) hg
def Zby (x:Sx)(B0:Nat)(T:Array Value)(w:World):Prop:=∃vn vso,T=TO 2 (.int .u8 x.first.fl.toNat) (.int .u64 (x.first.pos:Nat)) (.int .u32 (x.first.ser:Nat)) (.int .u32 (x.first.num:Nat)) (.string (B x.first.laces)) (.string (B x.first.body)) (.string (B x.v)) (.int .i64 7) vn (.string (B x.setup)) vso∧OoSt B0 x w vn vso
theorem Zby.below {x:Sx} {B0:Nat} {T:Array Value} {w w':World} (h:Zby x B0 T w)(hb:Below w.heap.size w w'):Zby x B0 T w':=by
 obtain⟨vn,vso,h1,h2⟩:=h;exact⟨vn,vso,h1,h2.below hb⟩
theorem Zby.low {x:Sx} {B0 B1:Nat} {T:Array Value} {w:World} (h:Zby x B0 T w)(hb:B1≤B0):Zby x B1 T w:=by
 obtain⟨vn,vso,h1,h2⟩:=h;exact⟨vn,vso,h1,h2.low hb⟩
theorem Zf4 (w:World)(K:Nat)(a b c d e f g h i j k:Value):But K w.heap.size w (((((((((((w.setCell ⟨K,6,none⟩ a).setCell ⟨K,7,none⟩ b).setCell ⟨K,8,none⟩ c).setCell ⟨K,9,none⟩ d).setCell ⟨K,10,none⟩ e).setCell ⟨K,11,none⟩ f).setCell ⟨K,12,none⟩ g).setCell ⟨K,13,none⟩ h).setCell ⟨K,14,none⟩ i).setCell ⟨K,15,none⟩ j).setCell ⟨K,16,none⟩ k):=
 (((((((((((But.refl K w.heap.size w).setCell (p:=⟨K,6,none⟩) (.inr rfl) a).setCell (p:=⟨K,7,none⟩) (.inr rfl) b).setCell (p:=⟨K,8,none⟩) (.inr rfl) c).setCell (p:=⟨K,9,none⟩) (.inr rfl) d).setCell (p:=⟨K,10,none⟩) (.inr rfl) e).setCell (p:=⟨K,11,none⟩) (.inr rfl) f).setCell (p:=⟨K,12,none⟩) (.inr rfl) g).setCell (p:=⟨K,13,none⟩) (.inr rfl) h).setCell (p:=⟨K,14,none⟩) (.inr rfl) i).setCell (p:=⟨K,15,none⟩) (.inr rfl) j).setCell (p:=⟨K,16,none⟩) (.inr rfl) k
theorem to_put (a b c d e f g h i j k:Value):(((((((((((TO 0 (.int .u8 0) (.int .u64 0) (.int .u32 0) (.int .u32 0) (.string ⟨#[]⟩) (.string ⟨#[]⟩) (.string ⟨#[]⟩) (.int .i64 0) (.slice none 0 0) (.string ⟨#[]⟩) (.slice none 0 0)).setIfInBounds 6 a).setIfInBounds 7 b).setIfInBounds 8 c).setIfInBounds 9 d).setIfInBounds 10 e).setIfInBounds 11 f).setIfInBounds 12 g).setIfInBounds 13 h).setIfInBounds 14 i).setIfInBounds 15 j).setIfInBounds 16 k=TO 0 a b c d e f g h i j k:=by
 unfold TO;simp only [List.setIfInBounds_toArray,List.set_cons_zero,List.set_cons_succ]
theorem PpSt.og11 {w wx:World} {F K:Nat} {OA FA:Array Value} (H:PpSt w wx F K OA (T67 0 0 0 0 (.slice none 0 0) []) FA)(a b c d e f g h i j k:Value):
 PpSt w (((((((((((wx.setCell ⟨K,6,none⟩ a).setCell ⟨K,7,none⟩ b).setCell ⟨K,8,none⟩ c).setCell ⟨K,9,none⟩ d).setCell ⟨K,10,none⟩ e).setCell ⟨K,11,none⟩ f).setCell ⟨K,12,none⟩ g).setCell ⟨K,13,none⟩ h).setCell ⟨K,14,none⟩ i).setCell ⟨K,15,none⟩ j).setCell ⟨K,16,none⟩ k) F K OA (TO 0 a b c d e f g h i j k) FA:=by
 refine H.butK (Zf4 wx K a b c d e f g h i j k) ?_;have:=(((((((((((H.t.put 6 a).put 7 b).put 8 c).put 9 d).put 10 e).put 11 f).put 12 g).put 13 h).put 14 i).put 15 j).put 16 k)
 rw [ZqI,to_put] at this;exact this
theorem PpSt.kindO {w wx:World} {F K:Nat} {OA FA:Array Value} {kd k2:Int} {a b c d e f g h i j k:Value} (H:PpSt w wx F K OA (TO kd a b c d e f g h i j k) FA):PpSt w (wx.setCell ⟨K,0,none⟩ (.int .i64 k2)) F K OA (TO k2 a b c d e f g h i j k) FA:=by
 have:=H.t.put 0 (.int .i64 k2);rw [to_kd] at this;exact H.butK ((But.refl K _ wx).setCell (p:=⟨K,0,none⟩) (.inr rfl) _) this
theorem Zln {w:World} {K:Nat} {T:TypeId} (h:Bx w K (T67 0 0 0 0 (.slice none 0 0) []) T):w.cell? ⟨K,6,none⟩=some (.int .u8 0)∧w.cell? ⟨K,7,none⟩=some (.int .u64 0)∧w.cell? ⟨K,8,none⟩=some (.int .u32 0)∧w.cell? ⟨K,9,none⟩=some (.int .u32 0)∧w.cell? ⟨K,10,none⟩=some (.string ⟨#[]⟩)∧w.cell? ⟨K,11,none⟩=some (.string ⟨#[]⟩)∧w.cell? ⟨K,12,none⟩=some (.string ⟨#[]⟩)∧w.cell? ⟨K,13,none⟩=some (.int .i64 0)∧w.cell? ⟨K,14,none⟩=some (.slice none 0 0)∧w.cell? ⟨K,15,none⟩=some (.string ⟨#[]⟩)∧w.cell? ⟨K,16,none⟩=some (.slice none 0 0)∧w.frozen? ⟨K,6,none⟩=false∧w.frozen? ⟨K,7,none⟩=false∧w.frozen? ⟨K,8,none⟩=false∧w.frozen? ⟨K,9,none⟩=false∧w.frozen? ⟨K,10,none⟩=false∧w.frozen? ⟨K,11,none⟩=false∧w.frozen? ⟨K,12,none⟩=false∧w.frozen? ⟨K,13,none⟩=false∧w.frozen? ⟨K,14,none⟩=false∧w.frozen? ⟨K,15,none⟩=false∧w.frozen? ⟨K,16,none⟩=false:=
 ⟨h.cell 6,h.cell 7,h.cell 8,h.cell 9,h.cell 10,h.cell 11,h.cell 12,h.cell 13,h.cell 14,h.cell 15,h.cell 16,h.free 6,h.free 7,h.free 8,h.free 9,h.free 10,h.free 11,h.free 12,h.free 13,h.free 14,h.free 15,h.free 16⟩
theorem ZeZ (x:Sx)(A1 A2:Option Addr)(n1 c1 n2 c2:Nat):(TO 2 (.int .u8 x.first.fl.toNat) (.int .u64 (x.first.pos:Nat)) (.int .u32 (x.first.ser:Nat)) (.int .u32 (x.first.num:Nat)) (.string (B x.first.laces)) (.string (B x.first.body)) (.string (B x.v)) (.int .i64 7) (.slice A1 n1 c1) (.string (B x.setup)) (.slice A2 n2 c2)).all (·.oneCell')=true:=to_one _ _ _ _ _ _ _ _ _ _ _ _ (Zlf x.first x.v 7 A1 A2 n1 c1 n2 c2 x.setup)
theorem ZlW (b:ByteArray)(kd fb bud:Int)(det:Bool)(x:Sx)(w:World)
 (hk:kd=2∨kd=0∧∀wx,Below w.heap.size w wx→Calls Tryz.prog 20 #[.string b] wx fun e w'=>e= .returned (.tuple #[.int .i64 2,.bool true])∧Below wx.heap.size wx w')
 (hp:∀wx,Below w.heap.size w wx→Calls Tryz.prog 22 #[.string b,.agg #[.int .i64 kd,.int .i64 fb,.bool det,.int .i64 bud]] wx (Zem wx x)):
 Calls Tryz.prog 9 #[.string b,.agg #[.int .i64 kd,.int .i64 fb,.bool det,.int .i64 bud]] w fun e w'=>∃T,e= .returned (.tuple #[.agg T,.agg #[.int .i64 0,.int .i64 0]])∧Zby x w.heap.size T w'∧Below w.heap.size w w':=by
 unfold Zem stV at hp;have hbd:=fun w=>ZT 0 0 rfl w;have S0:=Lib.hid (PgSt.new w #[.int .i64 kd,.int .i64 fb,.bool det,.int .i64 bud]);rcases hk with rfl|⟨rfl,hsn⟩
 · go_enter Tryz.func9,Tryz.ntmps9
   go_upto_region 1 with fail
   generalize hW:(((w.alloc _).alloc _).alloc _)=W0;have S1:Hid (PgSt w W0 (w.heap.size+1+1) _):=Lib.hid (by rw [←hW];exact S0.out);clear S0 hW;generalize w.heap.size+1+1=F at*;have o0:=S1.out.o.cell 0;have o1:=S1.out.o.cell 1;have o2:=S1.out.o.cell 2;have o3:=S1.out.o.cell 3;have hF:=S1.out.hF;have S2:=S1;clear S1;clear o1 o2 o3;go_upto_region 7 with fail
   go_upto_region 8 with(first
    |(refine Zlw rfl 56 _ rfl (T67 0 0 0 0 (.slice none 0 0) []) (by kernel_rfl) ?_)
    |(refine Zfq rfl 56 _ _ rfl _ _ (T67 0 0 0 0 (.slice none 0 0) []) 45 rfl rfl (by kernel_rfl) rfl (Zlo _ _ _ _ _ _ rfl) fun W3 b3 b4 b5=> ?_;have S3:Hid (PpSt w W3 F _ _ _ _):=Lib.hid ⟨S2.out.below b5,b3,b4,S2.out.f.lt⟩;clear b3 b4 b5;obtain⟨⟨o0,o1,o2,o3⟩,⟨e0,e1,g0,g1⟩,⟨f0,f1,h0,h1⟩⟩:=S3.out.cells))
   generalize W0.heap.size=K at*;have S4:=Lib.hid (S3.out.put2 (.int .i64 5) (.int .i64 0));clear S3 S2 o0 o1 o2 o3 e0 e1 g0 g1 f0 f1 h0 h1;generalize ((W3.setCell ⟨K+1,0,none⟩ (.int .i64 5)).setCell ⟨K+1,1,none⟩ (.int .i64 0))=W4 at*;have hp4:=hp W4 S4.out.s.low;have hK4:=S4.out.t.lt;have hK6:=S4.out.e.lt;have hFK:=S4.out.lt;clear hp;obtain⟨⟨o0,o1,o2,o3⟩,⟨e0,e1,g0,g1⟩,⟨f0,f1,h0,h1⟩⟩:=S4.out.cells;go_upto_region 20 with(go_at_call 22;refine hp4.mono ?_;clear hp4;rintro e w5 ⟨vl,vn,rfl,hms,hns,hb5⟩;have I5:Hid (OoSt W4.heap.size x w5 vl vn):=Lib.hid ⟨hms,hns⟩;obtain⟨A1,n1,c1,hv1⟩:=Zb5 hms;obtain⟨A2,n2,c2,hv2⟩:=(show∃A n c,vn= .slice A n c by obtain⟨A,c,h3⟩:=hns.sl;exact⟨A,_,c,h3⟩);subst hv1 hv2;have S5:=Lib.hid (S4.out.below hb5);clear hms hns hb5 S4 o0 o1 o2 o3 e0 e1 g0 g1 f0 f1 h0 h1;obtain⟨u6,u7,u8,u9,u10,u11,u12,u13,u14,u15,u16,x6,x7,x8,x9,x10,x11,x12,x13,x14,x15,x16⟩:=Zln S5.out.t;obtain⟨⟨o0,o1,o2,o3⟩,⟨e0,e1,g0,g1⟩,⟨f0,f1,h0,h1⟩⟩:=S5.out.cells)
   have S6:=Lib.hid (S5.out.og11 (.int .u8 x.first.fl.toNat) (.int .u64 (x.first.pos:Nat)) (.int .u32 (x.first.ser:Nat)) (.int .u32 (x.first.num:Nat)) (.string (B x.first.laces)) (.string (B x.first.body)) (.string (B x.v)) (.int .i64 7) (.slice A1 n1 c1) (.string (B x.setup)) (.slice A2 n2 c2));have I6:=Lib.hid (I5.out.but (Zf4 w5 K (.int .u8 x.first.fl.toNat) (.int .u64 (x.first.pos:Nat)) (.int .u32 (x.first.ser:Nat)) (.int .u32 (x.first.num:Nat)) (.string (B x.first.laces)) (.string (B x.first.body)) (.string (B x.v)) (.int .i64 7) (.slice A1 n1 c1) (.string (B x.setup)) (.slice A2 n2 c2)) hK4);have S7:=Lib.hid (S6.out.put2 (.int .i64 0) (.int .i64 0));have I7:=Lib.hid ((I6.out.set hK6 0 (.int .i64 0)).set hK6 1 (.int .i64 0));clear S6 I6 S5 I5 o0 o1 o2 o3 e0 e1 g0 g1 f0 f1 h0 h1 u6 u7 u8 u9 u10 u11 u12 u13 u14 u15 u16 x6 x7 x8 x9 x10 x11 x12 x13 x14 x15 x16;generalize (((((((((((((w5.setCell ⟨K,6,none⟩ _).setCell ⟨K,7,none⟩ _).setCell ⟨K,8,none⟩ _).setCell ⟨K,9,none⟩ _).setCell ⟨K,10,none⟩ _).setCell ⟨K,11,none⟩ _).setCell ⟨K,12,none⟩ _).setCell ⟨K,13,none⟩ _).setCell ⟨K,14,none⟩ _).setCell ⟨K,15,none⟩ _).setCell ⟨K,16,none⟩ _).setCell ⟨K+1,0,none⟩ (.int .i64 0)).setCell ⟨K+1,1,none⟩ (.int .i64 0))=W7 at*;obtain⟨⟨o0,o1,o2,o3⟩,⟨e0,e1,g0,g1⟩,⟨f0,f1,h0,h1⟩⟩:=S7.out.cells;go_upto_region 22 with(go_at_call 8;refine(hbd _).mono ?_;rintro e w8 ⟨rfl,hb8⟩;have S8:=Lib.hid (S7.out.below hb8);have I8:=Lib.hid (I7.out.below hb8);clear hb8 S7 I7 o0 o1 o2 o3 e0 e1 g0 g1 f0 f1 h0 h1)
   have t0:=S8.out.t.cell 0;rw [show(TO 0 (.int .u8 x.first.fl.toNat) (.int .u64 (x.first.pos:Nat)) (.int .u32 (x.first.ser:Nat)) (.int .u32 (x.first.num:Nat)) (.string (B x.first.laces)) (.string (B x.first.body)) (.string (B x.v)) (.int .i64 7) (.slice A1 n1 c1) (.string (B x.setup)) (.slice A2 n2 c2))[0]? =some (.int .i64 0) from rfl] at t0;have tf:=S8.out.t.free 0;go_upto_region 23 with fail
   have S9:=Lib.hid (S8.out.kindO (k2:=2));have I9:=Lib.hid (I8.out.set hK4 0 (.int .i64 2));clear S8 I8 t0 tf;generalize (w8.setCell ⟨K,0,none⟩ (.int .i64 2))=W9 at*;have hF9:=S9.out.s.hF;have hw9:=S9.out.s.o.lt;go_wp2_with (first
    |(refine wpList_load_row rfl 56 _ rfl K rfl 56 (TO 2 (.int .u8 x.first.fl.toNat) (.int .u64 (x.first.pos:Nat)) (.int .u32 (x.first.ser:Nat)) (.int .u32 (x.first.num:Nat)) (.string (B x.first.laces)) (.string (B x.first.body)) (.string (B x.v)) (.int .i64 7) (.slice A1 n1 c1) (.string (B x.setup)) (.slice A2 n2 c2)) (0,0) _ S9.out.t Tryz.underlying56 rfl (by kernel_rfl) ?_)
    |(refine Zhu rfl 56 _ _ rfl (w.heap.size+1) (T67 0 0 0 0 (.slice none 0 0) []) (TO 2 (.int .u8 x.first.fl.toNat) (.int .u64 (x.first.pos:Nat)) (.int .u32 (x.first.ser:Nat)) (.int .u32 (x.first.num:Nat)) (.string (B x.first.laces)) (.string (B x.first.body)) (.string (B x.v)) (.int .i64 7) (.slice A1 n1 c1) (.string (B x.setup)) (.slice A2 n2 c2)) rfl rfl S9.out.s.z (by kernel_rfl) rfl (ZeZ _ _ _ _ _ _ _) fun W bW hW=> ?_;have BW:=Lib.hid bW;have HW:=Lib.hid hW;have FW:=Lib.hid (S9.out.s.f.but hW (by omega));have e0:=FW.out.cell 0;have e1:=FW.out.cell 1;have g0:=FW.out.free 0;have g1:=FW.out.free 1;clear bW hW))
   have FX:=Za9 FW.out (.int .i64 0) (.int .i64 0);have TX:=(BW.out.set (k:=F) (by omega) 0 (.int .i64 0)).set (k:=F) (by omega) 1 (.int .i64 0);have IX:=(((I9.out.but HW.out (by omega)).set (g:=F) (by omega) 0 (.int .i64 0)).set (g:=F) (by omega) 1 (.int .i64 0)).low (B1:=w.heap.size) (by omega);refine bodyPost_ret (Zg4 rfl _ _ (w.heap.size+1) F _ _ _ _ _ _ _ _ rfl rfl TX FX Tryz.underlying56 rfl (by kernel_rfl) Tryz.underlying45 rfl (by kernel_rfl)) rfl ⟨_,rfl,⟨_,_,rfl,IX⟩,?_⟩;exact((S9.out.s.low.trans ((HW.out.mono S9.out.s.low.size).below (by omega))).setCell (p:=⟨F,0,none⟩) (by show w.heap.size≤F;omega) _).setCell (p:=⟨F,1,none⟩) (by show w.heap.size≤F;omega) _
 · go_enter Tryz.func9,Tryz.ntmps9
   go_upto_region 1 with fail
   generalize hW:(((w.alloc _).alloc _).alloc _)=W0;have S1:Hid (PgSt w W0 (w.heap.size+1+1) _):=Lib.hid (by rw [←hW];exact S0.out);clear S0 hW;generalize w.heap.size+1+1=F at*;have o0:=S1.out.o.cell 0;have o1:=S1.out.o.cell 1;have o2:=S1.out.o.cell 2;have o3:=S1.out.o.cell 3;have hF:=S1.out.hF;go_upto_region 7 with(go_at_call 20;refine(hsn _ S1.out.low).mono ?_;clear hsn;rintro e w1 ⟨rfl,hb1⟩;have S2:=Lib.hid (S1.out.below hb1);clear hb1 S1 o0 o1 o2 o3)
   go_upto_region 8 with(first
    |(refine Zlw rfl 56 _ rfl (T67 0 0 0 0 (.slice none 0 0) []) (by kernel_rfl) ?_)
    |(refine Zfq rfl 56 _ _ rfl _ _ (T67 0 0 0 0 (.slice none 0 0) []) 45 rfl rfl (by kernel_rfl) rfl (Zlo _ _ _ _ _ _ rfl) fun W3 b3 b4 b5=> ?_;have S3:Hid (PpSt w W3 F _ _ _ _):=Lib.hid ⟨S2.out.below b5,b3,b4,S2.out.f.lt⟩;clear b3 b4 b5;obtain⟨⟨o0,o1,o2,o3⟩,⟨e0,e1,g0,g1⟩,⟨f0,f1,h0,h1⟩⟩:=S3.out.cells))
   generalize w1.heap.size=K at*;have S4:=Lib.hid (S3.out.put2 (.int .i64 5) (.int .i64 0));clear S3 S2 o0 o1 o2 o3 e0 e1 g0 g1 f0 f1 h0 h1;generalize ((W3.setCell ⟨K+1,0,none⟩ (.int .i64 5)).setCell ⟨K+1,1,none⟩ (.int .i64 0))=W4 at*;have hp4:=hp W4 S4.out.s.low;have hK4:=S4.out.t.lt;have hK6:=S4.out.e.lt;have hFK:=S4.out.lt;clear hp;obtain⟨⟨o0,o1,o2,o3⟩,⟨e0,e1,g0,g1⟩,⟨f0,f1,h0,h1⟩⟩:=S4.out.cells;go_upto_region 20 with(go_at_call 22;refine hp4.mono ?_;clear hp4;rintro e w5 ⟨vl,vn,rfl,hms,hns,hb5⟩;have I5:Hid (OoSt W4.heap.size x w5 vl vn):=Lib.hid ⟨hms,hns⟩;obtain⟨A1,n1,c1,hv1⟩:=Zb5 hms;obtain⟨A2,n2,c2,hv2⟩:=(show∃A n c,vn= .slice A n c by obtain⟨A,c,h3⟩:=hns.sl;exact⟨A,_,c,h3⟩);subst hv1 hv2;have S5:=Lib.hid (S4.out.below hb5);clear hms hns hb5 S4 o0 o1 o2 o3 e0 e1 g0 g1 f0 f1 h0 h1;obtain⟨u6,u7,u8,u9,u10,u11,u12,u13,u14,u15,u16,x6,x7,x8,x9,x10,x11,x12,x13,x14,x15,x16⟩:=Zln S5.out.t;obtain⟨⟨o0,o1,o2,o3⟩,⟨e0,e1,g0,g1⟩,⟨f0,f1,h0,h1⟩⟩:=S5.out.cells)
   have S6:=Lib.hid (S5.out.og11 (.int .u8 x.first.fl.toNat) (.int .u64 (x.first.pos:Nat)) (.int .u32 (x.first.ser:Nat)) (.int .u32 (x.first.num:Nat)) (.string (B x.first.laces)) (.string (B x.first.body)) (.string (B x.v)) (.int .i64 7) (.slice A1 n1 c1) (.string (B x.setup)) (.slice A2 n2 c2));have I6:=Lib.hid (I5.out.but (Zf4 w5 K (.int .u8 x.first.fl.toNat) (.int .u64 (x.first.pos:Nat)) (.int .u32 (x.first.ser:Nat)) (.int .u32 (x.first.num:Nat)) (.string (B x.first.laces)) (.string (B x.first.body)) (.string (B x.v)) (.int .i64 7) (.slice A1 n1 c1) (.string (B x.setup)) (.slice A2 n2 c2)) hK4);have S7:=Lib.hid (S6.out.put2 (.int .i64 0) (.int .i64 0));have I7:=Lib.hid ((I6.out.set hK6 0 (.int .i64 0)).set hK6 1 (.int .i64 0));clear S6 I6 S5 I5 o0 o1 o2 o3 e0 e1 g0 g1 f0 f1 h0 h1 u6 u7 u8 u9 u10 u11 u12 u13 u14 u15 u16 x6 x7 x8 x9 x10 x11 x12 x13 x14 x15 x16;generalize (((((((((((((w5.setCell ⟨K,6,none⟩ _).setCell ⟨K,7,none⟩ _).setCell ⟨K,8,none⟩ _).setCell ⟨K,9,none⟩ _).setCell ⟨K,10,none⟩ _).setCell ⟨K,11,none⟩ _).setCell ⟨K,12,none⟩ _).setCell ⟨K,13,none⟩ _).setCell ⟨K,14,none⟩ _).setCell ⟨K,15,none⟩ _).setCell ⟨K,16,none⟩ _).setCell ⟨K+1,0,none⟩ (.int .i64 0)).setCell ⟨K+1,1,none⟩ (.int .i64 0))=W7 at*;obtain⟨⟨o0,o1,o2,o3⟩,⟨e0,e1,g0,g1⟩,⟨f0,f1,h0,h1⟩⟩:=S7.out.cells;go_upto_region 22 with(go_at_call 8;refine(hbd _).mono ?_;rintro e w8 ⟨rfl,hb8⟩;have S8:=Lib.hid (S7.out.below hb8);have I8:=Lib.hid (I7.out.below hb8);clear hb8 S7 I7 o0 o1 o2 o3 e0 e1 g0 g1 f0 f1 h0 h1)
   have t0:=S8.out.t.cell 0;rw [show(TO 0 (.int .u8 x.first.fl.toNat) (.int .u64 (x.first.pos:Nat)) (.int .u32 (x.first.ser:Nat)) (.int .u32 (x.first.num:Nat)) (.string (B x.first.laces)) (.string (B x.first.body)) (.string (B x.v)) (.int .i64 7) (.slice A1 n1 c1) (.string (B x.setup)) (.slice A2 n2 c2))[0]? =some (.int .i64 0) from rfl] at t0;have tf:=S8.out.t.free 0;go_upto_region 23 with fail
   have S9:=Lib.hid (S8.out.kindO (k2:=2));have I9:=Lib.hid (I8.out.set hK4 0 (.int .i64 2));clear S8 I8 t0 tf;generalize (w8.setCell ⟨K,0,none⟩ (.int .i64 2))=W9 at*;have hF9:=S9.out.s.hF;have hw9:=S9.out.s.o.lt;go_wp2_with (first
    |(refine wpList_load_row rfl 56 _ rfl K rfl 56 (TO 2 (.int .u8 x.first.fl.toNat) (.int .u64 (x.first.pos:Nat)) (.int .u32 (x.first.ser:Nat)) (.int .u32 (x.first.num:Nat)) (.string (B x.first.laces)) (.string (B x.first.body)) (.string (B x.v)) (.int .i64 7) (.slice A1 n1 c1) (.string (B x.setup)) (.slice A2 n2 c2)) (0,0) _ S9.out.t Tryz.underlying56 rfl (by kernel_rfl) ?_)
    |(refine Zhu rfl 56 _ _ rfl (w.heap.size+1) (T67 0 0 0 0 (.slice none 0 0) []) (TO 2 (.int .u8 x.first.fl.toNat) (.int .u64 (x.first.pos:Nat)) (.int .u32 (x.first.ser:Nat)) (.int .u32 (x.first.num:Nat)) (.string (B x.first.laces)) (.string (B x.first.body)) (.string (B x.v)) (.int .i64 7) (.slice A1 n1 c1) (.string (B x.setup)) (.slice A2 n2 c2)) rfl rfl S9.out.s.z (by kernel_rfl) rfl (ZeZ _ _ _ _ _ _ _) fun W bW hW=> ?_;have BW:=Lib.hid bW;have HW:=Lib.hid hW;have FW:=Lib.hid (S9.out.s.f.but hW (by omega));have e0:=FW.out.cell 0;have e1:=FW.out.cell 1;have g0:=FW.out.free 0;have g1:=FW.out.free 1;clear bW hW))
   have FX:=Za9 FW.out (.int .i64 0) (.int .i64 0);have TX:=(BW.out.set (k:=F) (by omega) 0 (.int .i64 0)).set (k:=F) (by omega) 1 (.int .i64 0);have IX:=(((I9.out.but HW.out (by omega)).set (g:=F) (by omega) 0 (.int .i64 0)).set (g:=F) (by omega) 1 (.int .i64 0)).low (B1:=w.heap.size) (by omega);refine bodyPost_ret (Zg4 rfl _ _ (w.heap.size+1) F _ _ _ _ _ _ _ _ rfl rfl TX FX Tryz.underlying56 rfl (by kernel_rfl) Tryz.underlying45 rfl (by kernel_rfl)) rfl ⟨_,rfl,⟨_,_,rfl,IX⟩,?_⟩;exact((S9.out.s.low.trans ((HW.out.mono S9.out.s.low.size).below (by omega))).setCell (p:=⟨F,0,none⟩) (by show w.heap.size≤F;omega) _).setCell (p:=⟨F,1,none⟩) (by show w.heap.size≤F;omega) _
end Go.Proofs.YtnbkfkbcpfkddaaGreatDoor
namespace Go.Proofs.YtnbkfkbcpfkddaaGreatDoor
open Go Go.RowKit Go.ChangeShapes Go.WideShapes Go.Deep
section
variable {H:Type} {enc:TypeId×Value→H} {w:World} {base:Nat} {spare:Nat→Bool} {held:Bool}
theorem Zkc {fuel:Nat} {cs:List Value} {x:DataW H×List MemPlace} (h:DataW.trod enc Tryz.prog w base spare held fuel 30 cs=some x):∃(s:ByteArray) (z:Int),cs=[.string s,.int .i64 z]:=by
 obtain⟨y0,y1,n,_,hl,g0,g1⟩:=trod_struct2 Tryz.underlying30 h;have hC:Tryz.prog.cellsOf 30=2:=by kernel_rfl
 rw [hC] at hl;have o0:Tryz.prog.cellsOf 9=1:=by kernel_rfl
 have o1:Tryz.prog.cellsOf 28=1:=by kernel_rfl
 match cs,hl with
 |[c0,c1],_=>
  change DataW.trod enc Tryz.prog w base spare held n 9 ((([c0,c1]:List Value).drop 0).take (Tryz.prog.cellsOf 9))=some y0 at g0
  rw [o0] at g0;change DataW.trod enc Tryz.prog w base spare held n 9 [c0]=some y0 at g0
  change DataW.trod enc Tryz.prog w base spare held n 28 ((([c0,c1]:List Value).drop 1).take (Tryz.prog.cellsOf 28))=some y1 at g1
  rw [o1] at g1;change DataW.trod enc Tryz.prog w base spare held n 28 [c1]=some y1 at g1
  obtain⟨s0,d0,_,_⟩:=DataW.trod_string Tryz.underlying9 g0;obtain⟨z1,d1,_,_⟩:=DataW.trod_int Tryz.underlying28 g1;injection d0 with d0
  injection d1 with d1
  exact⟨s0,z1,by rw [d0,d1]⟩
theorem Zpd {fuel:Nat} {cs:List Value} {x:DataW H×List MemPlace} (h:DataW.trod enc Tryz.prog w base spare held fuel 31 cs=some x):
 ∃(A:Option Addr) (c:Nat) (l:List Nx),cs=[.slice A l.length c]∧l.length≤maxLen∧RdN 3 nxV w w.heap.size A l:=by
 have hC:Tryz.prog.cellsOf 91=3:=by kernel_rfl
 have o0:Tryz.prog.cellsOf 9=1:=by kernel_rfl
 have o1:Tryz.prog.cellsOf 30=2:=by kernel_rfl
 rcases open_slice Tryz.underlying31 h with⟨hc,_⟩|⟨a,len,cap,m,n,D,Pl,hc,_,hle,hcm,hm,_,hall⟩
 · exact⟨none,0,[],hc,by decide,Reads.none_⟩
 · have hlm:len≤m:=by rw [hm];split<;>omega
   rw [hC] at hall;obtain⟨l,hl,hR⟩:=ZfW (R:=fun i (p:Nx)=>∀j,j<3→w.cell? (a.add (i*3+j))=(nxV p)[j]?) len fun i hi=>by
    obtain⟨cs',h1,h2⟩:=hall i (by omega);obtain⟨_,h3,h4⟩:=World.cells?_some h1;obtain⟨y0,y1,k,_,_,g0,g1⟩:=trod_struct2 Tryz.underlying91 h2
    match cs',h3 with
    |[c0,c1,c2],_=>
     change DataW.trod enc Tryz.prog w base spare held k 9 ((([c0,c1,c2]:List Value).drop 0).take (Tryz.prog.cellsOf 9))=some y0 at g0
     rw [o0] at g0;change DataW.trod enc Tryz.prog w base spare held k 9 [c0]=some y0 at g0
     change DataW.trod enc Tryz.prog w base spare held k 30 ((([c0,c1,c2]:List Value).drop 1).take (Tryz.prog.cellsOf 30))=some y1 at g1
     rw [o1] at g1;change DataW.trod enc Tryz.prog w base spare held k 30 [c1,c2]=some y1 at g1
     obtain⟨s0,d0,_,_⟩:=DataW.trod_string Tryz.underlying9 g0;obtain⟨s1,z2,d1⟩:=Zkc g1;injection d0 with d0
     injection d1 with d1 d2
     injection d2 with d2
     subst d0 d1 d2;refine⟨⟨s0.data.toList,s1.data.toList,z2⟩,fun j hj=> ?_⟩;have h5:=h4 j hj;rw [Go.Deep.add_add] at h5;rw [h5];unfold nxV;rw [←Zca s0,←Zca s1]
   subst hl;exact⟨some a,cap,l,hc,by omega,ZkL 3 nxV Zde (by omega) hR⟩
end
end Go.Proofs.YtnbkfkbcpfkddaaGreatDoor
