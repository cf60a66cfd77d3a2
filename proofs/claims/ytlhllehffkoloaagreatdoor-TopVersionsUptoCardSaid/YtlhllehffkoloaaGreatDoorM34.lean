/- Lemmas for TopVersions; conditions: as each says. -/
import Derived.Test.YtlhllehffkoloaaGreatDoorM33
set_option linter.unusedVariables false
set_option linter.unusedSimpArgs false
set_option maxRecDepth 100000
set_option maxHeartbeats 1000000
namespace Go.Proofs.YtlhllehffkoloaaGreatDoor
open Go Go.RowKit
theorem b_put (a l:List UInt8):(⟨a.toArray⟩:ByteArray)++B l=B (a++l):=by
 apply ByteArray.ext
 simp [B,ByteArray.data_append]
theorem ZqX (v:Nat)(w:World):Calls Tryz.prog 6 #[.int .i64 v] w fun e w'=>e= .returned (.string (B (Z1 v)))∧w=w':=by
 by_cases h:v=2
 · subst h;go_enter Tryz.func6,Tryz.ntmps6
   go_wp2_with fail
   go_ret
   exact⟨rfl,rfl⟩
 · have h2:((v:Int)==2)=false:=by rw [beq_eq_false_iff_ne];omega
   have ht:Z1 v=[84,73,84,50]:=by unfold Z1;rw [if_neg h]
   rw [ht];go_enter Tryz.func6,Tryz.ntmps6
   go_wp2_with fail
   go_ret
   exact⟨rfl,rfl⟩
theorem ZqA (v:Nat)(t:List UInt8)(ps:List Int)(hg:Good (B t) ps)(ht:t.length≤100)(w:World):
 Calls Tryz.prog 7 #[.int .i64 v,.string (B t)] w fun e w'=>e= .returned (.string (B (ZaI v t)))∧Below w.heap.size w w':=by
 have hsz:=Zn t;have hlp:ps.length≤100:=by have:=hg.len;omega
 by_cases h:v=4
 · subst h;have hs:ZaI 4 t=3::t:=rfl;rw [hs];go_enter Tryz.func7,Tryz.ntmps7
   go_wp2_with fail
   go_ret
   exact⟨Zjj (b_put [3] t),Below.refl _ _⟩
 · have h2:((v:Int)==4)=false:=by rw [beq_eq_false_iff_ne];omega
   have hs:ZaI v t=[1,255,254]++Zl false ps:=by unfold ZaI;rw [if_neg h,Zl1 hg];rfl
   rw [hs];have hpt:=fun w=>Zkz (B t) ps hg (by omega) w;have hwl:=(Zeb false ps).2;have hwl2:¬9223372036854775807<3+(Zl false ps).length:=by omega
   clear hwl;go_enter Tryz.func7,Tryz.ntmps7
   go_wp2_with (first
    |(go_at_call 5;refine(hpt _).mono ?_;rintro e w1 ⟨A,c,rfl,hc,hn,hb⟩;have HN:=Lib.hid hn;have HB:=Lib.hid hb;clear hn hb)
    |(go_at_call 15;refine(Zqg false A c ps _ HN.out (Nat.le_refl _) hg.2 (by omega)).mono ?_;rintro e w2 ⟨rfl,hb2⟩;have HB2:=Lib.hid hb2;clear hb2))
   go_ret
   exact⟨Zjj (b_put [1,255,254] _),HB.out.trans (HB2.out.mono HB.out.size)⟩
structure WhSt (w wx:World)(F:Nat)(I X:Array Value):Prop where
 i:Bx wx w.heap.size I 72
 r:Bx wx (w.heap.size+1) #[.string ⟨#[]⟩,.int .u8 0,.int .u8 0,.int .u8 0,.string ⟨#[]⟩,.int .i64 0] 33
 f:Bx wx F X 33
 low:Below w.heap.size w wx
 hF:w.heap.size+1<F
theorem WhSt.below {w wx wy:World} {F:Nat} {I X:Array Value} (h:WhSt w wx F I X)(hb:Below wx.heap.size wx wy):WhSt w wy F I X:=⟨h.i.below hb,h.r.below hb,h.f.below hb,h.low.trans (hb.mono h.low.size),h.hF⟩
theorem WhSt.new (w:World)(I X:Array Value):WhSt w (((w.alloc (.cells I 72)).alloc (.cells #[.string ⟨#[]⟩,.int .u8 0,.int .u8 0,.int .u8 0,.string ⟨#[]⟩,.int .i64 0] 33)).alloc (.cells X 33)) (w.heap.size+1+1) I X:=by
 refine⟨((Bx.new w _ _).alloc _).alloc _,?_,?_,(((Below.refl _ _).alloc (Nat.le_refl _) _).alloc (by simp) _).alloc (by simp;omega) _,by omega⟩
 · have:=(Bx.new (w.alloc (.cells I 72)) #[.string ⟨#[]⟩,.int .u8 0,.int .u8 0,.int .u8 0,.string ⟨#[]⟩,.int .i64 0] 33).alloc (.cells X 33);rw [World.size_alloc] at this;exact this
 · have:=Bx.new ((w.alloc (.cells I 72)).alloc (.cells #[.string ⟨#[]⟩,.int .u8 0,.int .u8 0,.int .u8 0,.string ⟨#[]⟩,.int .i64 0] 33)) X 33;rw [World.size_alloc,World.size_alloc] at this;exact this
theorem WhSt.cells {w wx:World} {a0 a1 a2 a3 a4 a5 a6 x0 x1 x2 x3 x4 x5:Value} {F:Nat} (h:WhSt w wx F #[a0,a1,a2,a3,a4,a5,a6] #[x0,x1,x2,x3,x4,x5]):
 wx.cell? ⟨w.heap.size,6,none⟩=some a6∧(wx.cell? ⟨F,0,none⟩=some x0∧wx.cell? ⟨F,1,none⟩=some x1∧wx.cell? ⟨F,2,none⟩=some x2∧wx.cell? ⟨F,3,none⟩=some x3∧wx.cell? ⟨F,4,none⟩=some x4∧wx.cell? ⟨F,5,none⟩=some x5∧wx.frozen? ⟨F,4,none⟩=false)∧
 ((wx.cell? ⟨w.heap.size+1,0,none⟩=some (.string ⟨#[]⟩)∧wx.cell? ⟨w.heap.size+1,1,none⟩=some (.int .u8 0)∧wx.cell? ⟨w.heap.size+1,2,none⟩=some (.int .u8 0)∧wx.cell? ⟨w.heap.size+1,3,none⟩=some (.int .u8 0)∧wx.cell? ⟨w.heap.size+1,4,none⟩=some (.string ⟨#[]⟩)∧wx.cell? ⟨w.heap.size+1,5,none⟩=some (.int .i64 0))∧(∀j,wx.frozen? ⟨w.heap.size+1,j,none⟩=false))∧F<wx.heap.size:=
 ⟨h.i.cell 6,⟨h.f.cell 0,h.f.cell 1,h.f.cell 2,h.f.cell 3,h.f.cell 4,h.f.cell 5,h.f.free 4⟩,⟨⟨h.r.cell 0,h.r.cell 1,h.r.cell 2,h.r.cell 3,h.r.cell 4,h.r.cell 5⟩,h.r.free⟩,h.f.lt⟩
theorem ZrB {w:World} {g:Nat} {T:TypeId} {x0 x1 x2 x3 x4 x5:Value} (h:Bx w g #[x0,x1,x2,x3,x4,x5] T)(a b c d e f:Value):Bx ((((((w.setCell ⟨g,0,none⟩ a).setCell ⟨g,1,none⟩ b).setCell ⟨g,2,none⟩ c).setCell ⟨g,3,none⟩ d).setCell ⟨g,4,none⟩ e).setCell ⟨g,5,none⟩ f) g #[a,b,c,d,e,f] T:=
 (((((h.put 0 a).put 1 b).put 2 c).put 3 d).put 4 e).put 5 f
theorem ZpB (v:Nat)(f:Fr)(hid:f.id.length≤100000)(A:Option Addr)(c:Nat)(ps:List Pi)(B0:Nat)(w:World)(hr:Zg piL B0 w (.slice A ps.length c) ps)(hps:∀p∈ps,p.text.length≤100000)(hG:Grd w)(h0:Zf v f.id≠[])(hck:Zd2 v f.id ps=(0,0))(hb:f.body=[])(hl:ZU v f.fm=false):
 Calls Tryz.prog 102 #[.agg #[.string (B f.id),.int .u8 f.st.toNat,.int .u8 f.fm.toNat,.int .u8 f.grp.toNat,.string (B f.body),.int .i64 f.at_,.slice A ps.length c],.int .i64 v] w fun e w'=>
  e= .returned (.tuple #[.agg #[.string (B f.id),.int .u8 f.st.toNat,.int .u8 f.fm.toNat,.int .u8 f.grp.toNat,.string (B (UInt8.ofNat (ZC v)::prL (ZC v) (Zf v f.id) ps)),.int .i64 f.at_],.int .i64 0])∧Below w.heap.size w w':=by
 have hkn:=fun w=>Zke v f hid w;rw [decide_eq_false h0,Bool.not_false] at hkn;have hfp:∀wx,Below w.heap.size w wx→Calls Tryz.prog 155 #[.int .i64 v,.string (B f.id),.slice A ps.length c] wx (Zgc wx (UInt8.ofNat (ZC v)::prL (ZC v) (Zf v f.id) ps)):=fun wx hb=>Zpt v f.id hid A c ps B0 wx (hr.below hb) hps (hG.below hb) h0 hck;unfold Zgc at hfp;have hlk:=fun w=>ZdT (B f.id) f.st f.fm v w;rw [Int.toNat_natCast,hl] at hlk;have hbd:=fun w=>Z0 0 0 rfl w;generalize UInt8.ofNat (ZC v)::prL (ZC v) (Zf v f.id) ps=out at*;generalize Value.slice A ps.length c=vp at*;have hbs:f.body=[]:=hb;rw [hbs,show B []=⟨#[]⟩ from rfl] at hkn⊢;generalize B f.id=id at*;generalize f.at_=at_ at*;generalize f.st.toNat=st at*;generalize f.fm.toNat=fm at*;generalize f.grp.toNat=grp at*;have bi:Bx ((w.alloc (.cells #[.string id,.int .u8 st,.int .u8 fm,.int .u8 grp,.string ⟨#[]⟩,.int .i64 at_,vp] 72)).alloc (.cells #[.string ⟨#[]⟩,.int .u8 0,.int .u8 0,.int .u8 0,.string ⟨#[]⟩,.int .i64 0] 33)) w.heap.size #[.string id,.int .u8 st,.int .u8 fm,.int .u8 grp,.string ⟨#[]⟩,.int .i64 at_,vp] 72:=(Bx.new w _ _).alloc _;have hm:((w.alloc (.cells #[.string id,.int .u8 st,.int .u8 fm,.int .u8 grp,.string ⟨#[]⟩,.int .i64 at_,vp] 72)).alloc (.cells #[.string ⟨#[]⟩,.int .u8 0,.int .u8 0,.int .u8 0,.string ⟨#[]⟩,.int .i64 0] 33)).rangeAt w.heap.size 0 [.string id,.int .u8 st,.int .u8 fm,.int .u8 grp,.string ⟨#[]⟩,.int .i64 at_]:=fun j u hu=>by
  rw [Nat.zero_add,bi.cell j];have hj:j<6:=(List.getElem?_eq_some_iff.1 hu).1
  match j,hj,hu with
  |0,_,hu=>exact hu
  |1,_,hu=>exact hu
  |2,_,hu=>exact hu
  |3,_,hu=>exact hu
  |4,_,hu=>exact hu
  |5,_,hu=>exact hu
 have Hm:=Lib.hid hm;have S0:=Lib.hid (WhSt.new w #[.string id,.int .u8 st,.int .u8 fm,.int .u8 grp,.string ⟨#[]⟩,.int .i64 at_,vp] #[.string id,.int .u8 st,.int .u8 fm,.int .u8 grp,.string ⟨#[]⟩,.int .i64 at_]);clear hm bi hb hbs hl hck h0 hid hps hr;go_enter Tryz.func102,Tryz.ntmps102
 go_upto_region 2 with(refine wpList_load_mid rfl 33 _ rfl w.heap.size 0 rfl [.string id,.int .u8 st,.int .u8 fm,.int .u8 grp,.string ⟨#[]⟩,.int .i64 at_] _ Hm.out Tryz.underlying33 rfl (by kernel_rfl) ?_)
 clear Hm;generalize (((w.alloc _).alloc _).alloc _)=W0 at*;generalize w.heap.size+1+1=F at*;have hF:=S0.out.hF;obtain⟨i6,⟨c0,c1,c2,c3,c4,c5,f4⟩,⟨⟨r0,r1,r2,r3,r4,r5⟩,rf⟩,l3⟩:=S0.out.cells;go_upto_region 6 with(go_at_call 57;refine(hkn _).mono ?_;clear hkn;rintro e w1 ⟨rfl,hb1⟩;have S1:=Lib.hid (S0.out.below hb1);clear hb1 S0 i6 c0 c1 c2 c3 c4 c5 f4 r0 r1 r2 r3 r4 r5 rf l3;obtain⟨i6,⟨c0,c1,c2,c3,c4,c5,f4⟩,⟨⟨r0,r1,r2,r3,r4,r5⟩,rf⟩,l3⟩:=S1.out.cells)
 go_upto_region 9 with(first
  |(go_at_call 155;refine(hfp _ S1.out.low).mono ?_;clear hfp;rintro e w2 ⟨rfl,hb2⟩;have S2:=Lib.hid (S1.out.below hb2);clear hb2 S1 i6 c0 c1 c2 c3 c4 c5 f4 r0 r1 r2 r3 r4 r5 rf l3)
  |(go_at_call 11;refine(hbd _).mono ?_;rintro e w3 ⟨rfl,hb3⟩;have S3:=Lib.hid (((S2.out.below ((Below.refl _ _).alloc (Nat.le_refl _) _))).below hb3);clear hb3 S2;obtain⟨i6,⟨c0,c1,c2,c3,c4,c5,f4⟩,⟨⟨r0,r1,r2,r3,r4,r5⟩,rf⟩,l3⟩:=S3.out.cells))
 go_wp2_with (go_at_call 58;refine(hlk _).mono ?_;clear hlk;rintro e w4 ⟨rfl,hb4⟩;have S4:=Lib.hid (S3.out.below hb4);clear hb4 S3 i6 c0 c1 c2 c3 c4 c5 f4 r0 r1 r2 r3 r4 r5 rf l3;obtain⟨i6,⟨c0,c1,c2,c3,c4,c5,f4⟩,⟨⟨r0,r1,r2,r3,r4,r5⟩,rf⟩,l3⟩:=S4.out.cells)
 have X1:=ZrB (S4.out.r.set (k:=F) (by omega) 4 (.string (B out))) (.string id) (.int .u8 st) (.int .u8 fm) (.int .u8 grp) (.string (B out)) (.int .i64 at_);refine bodyPost_ret (ZuJ rfl _ _ (w.heap.size+1) _ _ _ _ _ rfl rfl X1 Tryz.underlying33 rfl (by kernel_rfl)) rfl ⟨rfl,?_⟩;exact Zvg (S4.out.low.setCell (p:=⟨F,4,none⟩) (by show w.heap.size≤F;omega) _) (Nat.le_succ _) _ _ _ _ _ _
structure Wk (w:World):Prop where
 grd:Grd w
 st:ZhU w
theorem Wk.below {w w':World} (h:Wk w)(hb:Below w.heap.size w w'):Wk w' where
 grd:=h.grd.below hb
 st:=fun j u hu=>by
  have hc:=h.st j u hu;have hlt:0<w.heap.size:=by
   simp only [World.cell?] at hc;cases hq:w.heap[0]? with
   |none=>rw [hq] at hc;cases hc
   |some o=>exact(Array.getElem?_eq_some_iff.1 hq).1
  exact(hb.cell (p:=⟨0,0+j,none⟩) hlt).trans hc
section
variable {v:Nat} {sp:Bool} {t:List UInt8} {ps:List Int}
theorem Zwd (hg:Good (B t) ps):ZP t=true:=by
 unfold ZP;rw [show Zb0 t= .inl ps from ZjM hg]
theorem Zwg (K:Nat):ZhX K (ZC v) 0 0 0 false:=fun s l hl k hk w hG h=>by
 unfold ZC;by_cases h4:v=4
 · rw [if_pos h4];exact Words3 K s 3 (by omega) 0 0 0 false l hl k hk w hG h (by omega)
 · rw [if_neg h4];cases hb:Zam l with
   |true=>exact Zrc K s 0 0 0 false l hl k hk w hG h (by omega) hb
   |false=>exact Zrb K s 0 0 0 false l hl k hk w hG h (by omega) hb
theorem Zs7 (hv:v=2∨v=3∨v=4):((⟨ZaI v t,0,0,0,0⟩:InS).big 1).1=ZC v:=by rcases hv with rfl|rfl|rfl<;>rfl
theorem Zpa (hv:v=2∨v=3∨v=4)(hu:ZP t=true)(ht:t.length≤100)(w:World)(hG:Grd w):
 Calls Tryz.prog 59 #[.int .i64 v,.string (B (Z1 v)),.string (B (ZaI v t)),.agg #[.int .i64 0,.int .i64 0,.bool false,.int .i64 0]] w (Zey (Zcp (wdF 0 false) v (Z1 v) (ZaI v t)) w):=by
 refine Zpb v (Z1 v) (ZaI v t) (by unfold Z1;split<;>decide) (by have:=Zjr (v:=v) hu ht;omega) (by rw [Zdb hv];simp) 0 0 0 false ?_ w hG;intro l hl K s hs w hG h;rw [Zdb hv] at hl;simp only [List.mem_singleton] at hl;subst hl;rw [Zs7 hv];exact Zp7 K s (ZC v) 0 0 0 false (Zwg K) hs w hG h
theorem FileT (hv:v=2∨v=3∨v=4)(hu:ZP t=true)(ht:t.length≤100)(w:World)(hw:Wk w):
 Calls Tryz.prog 10 #[.string (B (ZJ (tgT v sp t 0))),.agg #[.int .i64 0,.int .i64 0,.bool false,.int .i64 0]] w fun e w'=>
  ∃vi b,e= .returned (.tuple #[.agg (T67 1 v 0 (flT sp) vi []),.agg #[.int .i64 0,.int .i64 0]])∧Zaq w.heap.size w' vi [itT v sp t b]∧Below w.heap.size w w':=by
 obtain⟨b,hb⟩:=Zup (v:=v) (sp:=sp) (a:=0) hv hu ht;have hlen:=Zjb (v:=v) (sp:=sp) (a:=0) hu ht;have hbody:=Zjr (v:=v) hu ht;refine(Zpe (B (ZJ (tgT v sp t 0))) 0 0 0 false v 0 (flT sp) [] [itT v sp t b] w (.inr ⟨rfl,fun wx hx=>ZpJ _ (ZvI) wx (hw.below hx).st⟩) fun wx hx=> ?_).mono ?_
 · refine Zp5 (ZJ (tgT v sp t 0)) (by omega) 0 0 0 false v 0 (flT sp) [frT v sp t b] [] [itT v sp t b] (.inl hb) (by show 1≤4096;omega) ?_ ?_ ⟨rfl,?_⟩ wx (hw.below hx).grd
   · intro f hf;simp only [List.mem_singleton] at hf;subst hf;refine⟨?_,by show(ZaI v t).length≤100000;omega⟩;show(Z1 v).length≤100000
     unfold Z1;split<;>decide
   · intro f hf _ wy hy;simp only [List.mem_singleton] at hf;subst hf;exact Zpa hv hu ht wy hy
   · intro k f it h1 h2
     match k,h1,h2 with
     |0,h1,h2=>
      cases h1;cases h2
      exact Ztn hv hu 0 false
     |k+1,h1,_=>cases h1
 · rintro e w' ⟨vi,h1,h2,h3⟩;exact⟨vi,b,h1,h2,h3⟩
theorem TreeT (hv:v=2∨v=3∨v=4)(hu:ZP t=true)(ht:t.length≤100)(b B0:Nat)(vi:Value)(w:World)(hw:Wk w)(hi:Zaq B0 w vi [itT v sp t b]):
 Calls Tryz.prog 23 #[.agg (T67 1 v 0 (flT sp) vi [])] w fun e w'=>e= .returned (.tuple #[.string (B (ZJ (tgT v sp t 0))),.agg #[.int .i64 0,.int .i64 0]])∧Below w.heap.size w w':=by
 obtain⟨xs,h1,h2,h3⟩:=hi;obtain⟨s,hxs⟩:∃s,xs=[(itT v sp t b,s)]:=by
  clear h2 h3;rcases xs with _|⟨x,_|⟨y,l⟩⟩
  · simp at h1
  · simp only [List.map_cons,List.map_nil,List.cons.injEq,and_true] at h1;exact⟨x.2,by rw [←h1]⟩
  · simp at h1
 subst hxs;obtain⟨A,c,hvi,_⟩:=h2.len;subst hvi;have hs:=h3 _ (List.mem_cons_self ..);obtain⟨A5,c5,hs5,_⟩:=hs.len;simp only at hs hs5;subst hs5;have hlen:=Zjb (v:=v) (sp:=sp) (a:=b) hu ht;have hall:=Zgp (v:=v) (sp:=sp) (a:=b) hu ht;refine Zq0 _ (Zol ..) rfl _ 0 0 w fun wx hx=> ?_;have hp:=Zqc v hv 0 (flT sp) [(itT v sp t b,.slice A5 _ c5)] A c [frT v sp t b] [] B0 wx (T67 1 v 0 (flT sp) (.slice A _ c) []) rfl rfl rfl rfl rfl (h2.below hx) (by intro x hx;simp only [List.mem_singleton] at hx;subst hx;exact⟨_,_,_,rfl⟩) (by show 1≤100000;omega) rfl ?_ ?_ (ZjV hv) (Zls hv) ?_ ?_ (by omega) (by show 0≤1000000000;omega) (by show(ZJ (tgT v sp t b)).length≤1000000000;omega)
 · rw [List.append_nil] at hp;exact hp
 · intro k x f hk1 hk2 wy hy
   match k,hk1,hk2 with
   |0,hk1,hk2=>
    cases hk1;cases hk2
    have hq:=ZpB v {frT v sp t b with body:=[]} (by show(Z1 v).length≤100000;unfold Z1;split<;>decide) A5 c5 [piT v t] B0 wy ((hs.below hx).below hy) (by intro p hp;simp only [List.mem_singleton] at hp;subst hp;show t.length≤100000;omega) ((hw.below hx).below hy).grd (by show Zf v (Z1 v)≠[];rw [Zdb hv];simp) (ZrG hv hu) rfl (ZmN (sp:=sp) (t:=t) (a:=b) hv);rw [show UInt8.ofNat (ZC v)::prL (ZC v) (Zf v ({frT v sp t b with body:=[]}:Fr).id) [piT v t]=ZaI v t from ZuA hv] at hq;exact hq
   |k+1,hk1,_=>cases hk1
 · intro f hf;simp only [List.mem_singleton] at hf;subst hf;show(Z1 v).length≤1000000000
   unfold Z1;split<;>decide
 · intro f hf;simp only [List.mem_singleton] at hf;subst hf;exact Zi3 hv
 · intro h2 f hf;simp only [List.mem_singleton] at hf;subst hf;have:=ZgQ (v:=2) (sp:=sp) (a:=b) hu ht;subst h2;omega
theorem NormT (hv:v=2∨v=3∨v=4)(hu:ZP t=true)(ht:t.length≤100)(w:World)(hw:Wk w):
 Calls Tryz.prog 9 #[.string (B (ZJ (tgT v sp t 0))),.agg #[.int .i64 0,.int .i64 0,.bool false,.int .i64 0]] w fun e w'=>e= .returned (.tuple #[.string (B (ZJ (tgT v sp t 0))),.agg #[.int .i64 0,.int .i64 0]])∧Below w.heap.size w w':=by
 have hlen:=Zjb (v:=v) (sp:=sp) (a:=0) hu ht;have hsz:=Zn (ZJ (tgT v sp t 0));refine ZpS (B (ZJ (tgT v sp t 0))) (by omega) 0 0 false (by decide) _ (by omega) (fun T w=>Wk w∧∃vi b,T=T67 1 v 0 (flT sp) vi []∧Zaq 0 w vi [itT v sp t b]) ?_ w (fun wx hx=> ?_) fun T wx _ hR=> ?_
 · rintro T w1 w2 ⟨h0,vi,b,h1,h2⟩ hb;exact⟨h0.below hb,vi,b,h1,h2.below hb⟩
 · refine(FileT hv hu ht wx (hw.below hx)).mono ?_;rintro e w' ⟨vi,b,h1,h2,h3⟩;obtain⟨A,n,c,hvi⟩:=ZgS h2;subst hvi;exact⟨_,h1,⟨Zol ..,ZcT _ _ _ _ _ _ rfl⟩,⟨(hw.below hx).below h3,_,b,rfl,h2.low (Nat.zero_le _)⟩,h3⟩
 · obtain⟨h0,vi,b,rfl,h2⟩:=hR;exact TreeT hv hu ht b 0 vi wx h0 h2
end
end Go.Proofs.YtlhllehffkoloaaGreatDoor
