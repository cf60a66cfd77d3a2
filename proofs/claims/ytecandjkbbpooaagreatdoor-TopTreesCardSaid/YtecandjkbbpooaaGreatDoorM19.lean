/- Lemmas for a statement on the tops; conditions: as each says. -/
import Derived.Deep.CutBlock
import Derived.Test.YtecandjkbbpooaaGreatDoorM18
set_option linter.unusedVariables false
set_option linter.unusedSimpArgs false
set_option maxRecDepth 100000
set_option maxHeartbeats 20000000
namespace Go.Proofs.YtecandjkbbpooaaGreatDoor
open Go Go.RowKit
def OwS (w0 wx:World)(v:Value)(l:List (List UInt8)):Prop:=wx.ownsRow (w0.heap.size+2) 9 1 v l.length (l.map sV)
theorem OwS.below {w0 w w':World} {v:Value} {l:List (List UInt8)} (h:OwS w0 w v l)(hb:Below w.heap.size w w'):OwS w0 w' v l:=ZE h hb
theorem Ztk (v n:Nat):(ZL v n).length≤4:=by
 unfold ZL;split
 · rw [ZdK];omega
 · split
   · rw [ZdK];omega
   · exact Nat.le_refl 4
theorem ok_ver {v:Int} {f:Fr} (h:okF v.toNat f=true):v=2∨v=3∨v=4:=by
 unfold okF Zc1 at h;simp only [Bool.and_eq_true,decide_eq_true_eq] at h;have:=h.1.1;unfold Zx at this;split at this
 · omega
 · split at this<;>omega
theorem ZnI (f:Fr)(v:Int)(h1:f.id.length≤200000000)(h2:f.body.length≤200000000)(hok:okF v.toNat f=true)(hg:¬(268435455<(Zg v.toNat f).length∨(v.toNat=2∧16777215<(Zg v.toNat f).length)))(w:World):
 Calls Tryz.prog 150 #[.agg #[.string (B f.id),.int .u8 f.st.toNat,.int .u8 f.fm.toNat,.int .u8 f.grp.toNat,.string (B f.body),.int .i64 f.at_],.int .i64 v] w (Zda w (fpR v.toNat f)):=by
 have hR:fpR v.toNat f= .ok (Zt v.toNat f):=by unfold fpR;rw [if_neg (by rw [hok];decide),if_neg hg]
 rw [hR];generalize hP:Zda w (.ok (Zt v.toNat f))=P at*;have hver:=ok_ver hok;have hck:=fun w=>ZfI f v (by omega) w;rw [show ckF v.toNat f=0 by unfold ckF;rw [hok];rfl] at hck;have hbd:=fun w=>ZT 0 0 rfl w;have hln:=fun w=>Zi7 f v (by omega) w;have hgr:=fun w=>ZfL (B f.id) f.st f.fm v w;have hms:=fun w=>Zg1 (B f.id) f.st f.fm v w;have hsp:=fun w=>ZgX (B f.id) f.st f.fm v w;have hpt:=fun w=>Zju f.body (by omega) w;have hpl:=ZdX f.body;have hel:=Zdh f.body;have hj2:∀w:World,Calls Tryz.prog 27 #[.slice (some ⟨w.heap.size,0,none⟩) 2 2] (w.alloc (.cells #[.string (B [f.st]),.string (B [f.fm])] 9)) fun e w'=>e= .returned (.string (B [f.st,f.fm]))∧Below (w.alloc (.cells #[.string (B [f.st]),.string (B [f.fm])] 9)).heap.size (w.alloc (.cells #[.string (B [f.st]),.string (B [f.fm])] 9)) w':=fun w=>Zg2 [[f.st],[f.fm]] (by simp) (by simp) (by simp) w;have hpr:Zt v.toNat f=f.id++(ZL v.toNat (Zg v.toNat f).length++(Zab v.toNat f++Zg v.toNat f)):=rfl;have hin:Zg v.toNat f=(if Z7 v.toNat f.fm then [f.grp] else [])++((if Zap v.toNat f.fm then ZO f.body.length else [])++(if ZaG v.toNat f.fm then ZR f.body else f.body)):=rfl;have hsl:=Ztk v.toNat (Zg v.toNat f).length;have hfl:(Zab v.toNat f).length≤2:=by unfold Zab;split<;>simp
 have hIl:(Zg v.toNat f).length≤268435455:=by omega
 have hI2:v=2→(Zg v.toNat f).length≤16777215:=by
  intro e;have:v.toNat=2:=by omega
  omega
 have hprl:(Zt v.toNat f).length≤1000000000:=by
  rw [hpr];simp only [List.length_append];omega
 have Hprl:=Lib.hid hprl;have Hpr:=Lib.hid hpr;have Hin:=Lib.hid hin;have HI2:=Lib.hid hI2;have hszb:=Zl f.body;have hlt1:=f.st.toNat_lt;have hlt2:=f.fm.toNat_lt;have hlt3:=f.grp.toNat_lt;have hwp1:IntKind.u64.wrap (f.st.toNat:Int)=f.st.toNat:=by rw [IntKind.wrap_u64];omega
 have hwp2:IntKind.u64.wrap (f.fm.toNat:Int)=f.fm.toNat:=by rw [IntKind.wrap_u64];omega
 clear hok hR hg hpr hin hprl hI2 hsl hfl;generalize Zt v.toNat f=PR at*;generalize hILL:(Zg v.toNat f)=IN at*;have HILL:=Lib.hid hILL;clear hILL;generalize hIL:IN.length=IL at*;have HIL:=Lib.hid hIL;clear hIL;generalize Z7 v.toNat f.fm=G at*;generalize Zap v.toNat f.fm=M at*;generalize ZaG v.toNat f.fm=S at*;obtain⟨l2,hl2⟩:∃l2:List (List UInt8),l2=[f.id]++(if v=2 then [ZL v.toNat IL] else [ZL v.toNat IL,[f.st,f.fm]]):=⟨_,rfl⟩
 obtain⟨l3,hl3⟩:∃l3:List (List UInt8),l3=l2++(if G then [[f.grp]] else []):=⟨_,rfl⟩
 obtain⟨l4,hl4⟩:∃l4:List (List UInt8),l4=l3++(if M then [ZO f.body.length] else []):=⟨_,rfl⟩
 obtain⟨bd,hbdy⟩:∃bd:List UInt8,bd=if S then ZR f.body else f.body:=⟨_,rfl⟩
 have hfin:(l4++[bd]).flatten=PR:=by
  have hpr:=Hpr.out;have hin:=Hin.out;rw [hpr,hin,hl4,hl3,hl2,hbdy];unfold Zab;by_cases e2:v=2
  · subst e2;cases G<;>cases M<;>simp
  · have e3:¬v.toNat=2:=by omega
    cases G<;>cases M<;>simp [e2,e3]
 have Hl2:=Lib.hid hl2;have Hl3:=Lib.hid hl3;have Hl4:=Lib.hid hl4;have Hbd:=Lib.hid hbdy;have Hfin:=Lib.hid hfin;have hl2n:l2.length≤3:=by rw [hl2];split<;>simp
 have hl3n:l3.length≤4:=by rw [hl3];split<;>simp<;>omega
 have hl4n:l4.length≤5:=by rw [hl4];split<;>simp<;>omega
 have ST0:Hid (QSt w ((w.alloc (.cells (six f) 34)).alloc (.cells #[.int .i64 0,.int .i64 0] 62)) f):=Lib.hid ⟨(Bx.new w _ _).alloc _,by have:=Bx.new (w.alloc (.cells (six f) 34)) #[.int .i64 0,.int .i64 0] 62;rw [World.size_alloc] at this;exact this,((Below.refl _ _).alloc (Nat.le_refl _) _).alloc (by simp) _⟩;have ht2:¬((IL:Int)>268435455):=by omega
 clear hl2 hl3 hl4 hbdy hfin;have hgt:v=2→¬((IL:Int)>16777215):=by intro e;have:=HI2.out e;omega
 go_enter Tryz.func150,Tryz.ntmps150
 by_cases hv2:v=2
 · have Hv2:=Lib.hid hv2;subst hv2;have ht3:=hgt rfl;clear hgt hver;go_upto_region 7 with(first
    |(go_at_call 148;refine(hck _).mono ?_;rintro e w1 ⟨rfl,hb1⟩;have ST1:=Lib.hid (ST0.out.below hb1);clear hb1)
    |(go_at_call 7;refine(hbd _).mono ?_;rintro e w2 ⟨rfl,hb2⟩;have ST2:=Lib.hid ((ST1.out.alloc _).below hb2);clear hb2;obtain⟨⟨c0,c1,c2,c3,c4,c5⟩,⟨r0,r1⟩,rf,l1,l2'⟩:=ST2.out.cells)
    |(go_at_call 226;refine(hln _).mono ?_;rintro e w3 ⟨rfl,hb3⟩;have ST3:=Lib.hid (ST2.out.below hb3);clear hb3;clear c0 c1 c2 c3 c4 c5 r0 r1 rf l1 l2';obtain⟨⟨c0,c1,c2,c3,c4,c5⟩,⟨r0,r1⟩,rf,l1,l2'⟩:=ST3.out.cells))
   go_upto_region 8 with fail
   have OW1:Hid (OwS w (w3.alloc (.cells #[.string (B f.id)] 9)) (.slice (some ⟨w3.heap.size,0,none⟩) 1 1) [f.id]):=Lib.hid (World.ownsRow_lit (base:=w.heap.size+2) (e:=9) (size:=1) w3 #[.string (B f.id)] 1 (by have:=ST3.out.res.lt;omega) (by decide) rfl);have ST4:=Lib.hid (ST3.out.alloc (.cells #[.string (B f.id)] 9));clear c0 c1 c2 c3 c4 c5 r0 r1 rf l1 l2';obtain⟨⟨c0,c1,c2,c3,c4,c5⟩,⟨r0,r1⟩,rf,l1,l2'⟩:=ST4.out.cells;generalize hWW:w3.alloc (.cells #[.string (B f.id)] 9)=ww at*;clear hWW;go_cut [9] (fun s9 wx=>s9= .string (B [f.st,f.fm])∧QSt w wx f∧OwS w wx (.slice (some ⟨w3.heap.size,0,none⟩) 1 1) [f.id])
   case first=>
    go_region_held3 (fun w'=>w'.cell? ⟨w.heap.size,1,none⟩=some (.int .u8 f.st.toNat)∧w'.cell? ⟨w.heap.size,2,none⟩=some (.int .u8 f.fm.toNat))
     (first|with_reducible exact⟨ST4.out.drew.cells.1.2.1,ST4.out.drew.cells.1.2.2.1⟩|with_reducible exact⟨SB1.out.cells.1.2.1,SB1.out.cells.1.2.2.1⟩|with_reducible exact⟨SB2.out.cells.1.2.1,SB2.out.cells.1.2.2.1⟩|with_reducible exact⟨(SB2.out.alloc _).cells.1.2.1,(SB2.out.alloc _).cells.1.2.2.1⟩|with_reducible exact⟨SB3.out.cells.1.2.1,SB3.out.cells.1.2.2.1⟩)
     (first
      |(go_at_call 32;((with_reducible refine(ZdB _ _).mono ?_);rintro e wb ⟨rfl,hbb⟩);first|(have SB1:=Lib.hid (ST4.out.drew.below hbb);have OB1:=Lib.hid ((OwS.below OW1.out (Za8 (Below.refl _ _))).below hbb))|(have SB2:=Lib.hid (SB1.out.below hbb);have OB2:=Lib.hid (OB1.out.below hbb)))
      |(go_at_call 27;refine(hj2 _).mono ?_;rintro e wj ⟨rfl,hbj⟩;have SB3:=Lib.hid ((SB2.out.alloc _).below hbj);have OB3:=Lib.hid ((OwS.below OB2.out ((Below.refl _ _).alloc (Nat.le_refl _) _)).below hbj)))
    all_goals
     go_wp2_with fail
     go_meet
     exact⟨rfl,SB3.out,OB3.out⟩
   obtain⟨rfl,hcq,hco⟩:=hcut;have ST5:=Lib.hid hcq;have OW:=Lib.hid hco;clear hcq hco c0 c1 c2 c3 c4 c5 r0 r1 rf l1 l2';obtain⟨⟨c0,c1,c2,c3,c4,c5⟩,⟨r0,r1⟩,rf,l1,l2'⟩:=ST5.out.cells
   go_upto_block 0 with fail
   go_cut [8] (fun s8 wx=>QSt w wx f∧OwS w wx s8 l2)
   case first=>
    have hb3:=fun w=>ZeQ IL 3 (by omega) (by omega) (by omega) w;have hq:l2=[f.id]++[ZL (2:Int).toNat IL]:=by have:=Hl2.out;simpa using this
    have hs3:ZL (2:Int).toNat IL=Zah IL 3:=rfl;rw [hs3] at hq;have Hq:=Lib.hid hq;clear hq hs3;go_wp2_with (first
     |(go_at_call 32;refine(hb3 _).mono ?_;rintro e w5 ⟨rfl,hb5⟩;have SU:=Lib.hid (ST5.out.below hb5);have OV:=Lib.hid (OW.out.below hb5);have hz5:=hb5.size;clear hb5)
     |(at_builtin;refine Zbo rfl _ _ rfl (w.heap.size+2) (.slice (some ⟨w3.heap.size,0,none⟩) 1 1) [f.id] rfl w5 (Zah IL 3) OV.out (by have:=SU.out.res.lt;omega) (by simp) rfl ?_;intro v6 w6 HO6 hb6 hg6;have SX:=Lib.hid (SU.out.low2 hb6);clear hb6 hg6))
    go_meet
    exact⟨SX.out,by rw [Hq.out];exact HO6.out⟩
   have ST6:=Lib.hid hcut.1;obtain⟨_,A6,c6,hv6,hc6⟩:=ZaL hcut.2;have OW6:=Lib.hid hcut.2;subst hv6;clear hcut c0 c1 c2 c3 c4 c5 r0 r1 rf l1 l2';obtain⟨⟨c0,c1,c2,c3,c4,c5⟩,⟨r0,r1⟩,rf,l1,l2'⟩:=ST6.out.cells
   go_upto_if 83 with(go_at_call 224;refine(hgr _).mono ?_;rintro e w7 ⟨rfl,hb7⟩;have ST7:=Lib.hid (ST6.out.below hb7);have OW7:=Lib.hid (OW6.out.below hb7);clear hb7 c0 c1 c2 c3 c4 c5 r0 r1 rf l1 l2';obtain⟨⟨c0,c1,c2,c3,c4,c5⟩,⟨r0,r1⟩,rf,l1,l2'⟩:=ST7.out.cells)
   go_cut [8] (fun s8 wx=>QSt w wx f∧OwS w wx s8 l3)
   case first=>
    have hbg:=fun w=>ZdB f.grp w;cases G with
    |true=>
     have Hq:Hid (l3=l2++[[f.grp]]):=Lib.hid (by have:=Hl3.out;simpa using this);go_wp2_with (first
      |(go_at_call 32;refine(hbg _).mono ?_;rintro e w8 ⟨rfl,hb8⟩;have SU:=Lib.hid (ST7.out.below hb8);have OV:=Lib.hid (OW7.out.below hb8);clear hb8)
      |(at_builtin;refine Zbo rfl _ _ rfl (w.heap.size+2) (.slice A6 l2.length c6) l2 rfl w8 [f.grp] OV.out (by have:=SU.out.res.lt;omega) (by omega) rfl ?_;intro v6 w9 HO6 hb6 hg6;have SX:=Lib.hid (SU.out.low2 hb6);clear hb6 hg6))
     go_meet
     exact⟨SX.out,by rw [Hq.out];exact HO6.out⟩
    |false=>
     have Hq:Hid (l3=l2):=Lib.hid (by have:=Hl3.out;simpa using this);go_wp2_with fail
     go_meet
     exact⟨ST7.out,by rw [Hq.out];exact OW7.out⟩
   have ST8:=Lib.hid hcut.1;obtain⟨_,A8,c8,hv8,hc8⟩:=ZaL hcut.2;have OW8:=Lib.hid hcut.2;subst hv8;clear hcut c0 c1 c2 c3 c4 c5 r0 r1 rf l1 l2';obtain⟨⟨c0,c1,c2,c3,c4,c5⟩,⟨r0,r1⟩,rf,l1,l2'⟩:=ST8.out.cells
   go_upto_if 94 with(go_at_call 227;refine(hms _).mono ?_;rintro e w7 ⟨rfl,hb7⟩;have ST9:=Lib.hid (ST8.out.below hb7);have OW9:=Lib.hid (OW8.out.below hb7);clear hb7 c0 c1 c2 c3 c4 c5 r0 r1 rf l1 l2';obtain⟨⟨c0,c1,c2,c3,c4,c5⟩,⟨r0,r1⟩,rf,l1,l2'⟩:=ST9.out.cells)
   go_cut [8] (fun s8 wx=>QSt w wx f∧OwS w wx s8 l4)
   case first=>
    have hbs:=fun w=>ZeX f.body.length (by omega) w;cases M with
    |true=>
     have Hq:Hid (l4=l3++[ZO f.body.length]):=Lib.hid (by have:=Hl4.out;simpa using this);go_wp2_with (first
      |(go_at_call 74;refine(hbs _).mono ?_;rintro e w8 ⟨rfl,hb8⟩;have SU:=Lib.hid (ST9.out.below hb8);have OV:=Lib.hid (OW9.out.below hb8);clear hb8)
      |(at_builtin;refine Zbo rfl _ _ rfl (w.heap.size+2) (.slice A8 l3.length c8) l3 rfl w8 (ZO f.body.length) OV.out (by have:=SU.out.res.lt;omega) (by omega) rfl ?_;intro v6 w9 HO6 hb6 hg6;have SX:=Lib.hid (SU.out.low2 hb6);clear hb6 hg6))
     go_meet
     exact⟨SX.out,by rw [Hq.out];exact HO6.out⟩
    |false=>
     have Hq:Hid (l4=l3):=Lib.hid (by have:=Hl4.out;simpa using this);go_wp2_with fail
     go_meet
     exact⟨ST9.out,by rw [Hq.out];exact OW9.out⟩
   have STa:=Lib.hid hcut.1;obtain⟨_,Aa,ca,hva,hca⟩:=ZaL hcut.2;have OWa:=Lib.hid hcut.2;subst hva;clear hcut c0 c1 c2 c3 c4 c5 r0 r1 rf l1 l2';obtain⟨⟨c0,c1,c2,c3,c4,c5⟩,⟨r0,r1⟩,rf,l1,l2'⟩:=STa.out.cells
   go_upto_if 112 with(go_at_call 228;refine(hsp _).mono ?_;rintro e w7 ⟨rfl,hb7⟩;have STb:=Lib.hid (STa.out.below hb7);have OWb:=Lib.hid (OWa.out.below hb7);clear hb7 c0 c1 c2 c3 c4 c5 r0 r1 rf l1 l2';obtain⟨⟨c0,c1,c2,c3,c4,c5⟩,⟨r0,r1⟩,rf,l1,l2'⟩:=STb.out.cells)
   go_cut [14] (fun s14 wx=>s14= .string (B bd)∧QSt w wx f∧OwS w wx (.slice Aa l4.length ca) l4)
   case first=>
    cases S with
    |true=>
     have Hq:Hid (bd=ZR f.body):=Lib.hid (by have:=Hbd.out;simpa using this);go_wp2_with (go_at_call 152;refine(hpt _).mono ?_;rintro e w8 ⟨rfl,hb8⟩)
     go_meet
     exact⟨by rw [Hq.out],STb.out.below hb8,OWb.out.below hb8⟩
    |false=>
     have Hq:Hid (bd=f.body):=Lib.hid (by have:=Hbd.out;simpa using this);go_wp2_with fail
     go_meet
     exact⟨by rw [Hq.out],STb.out,OWb.out⟩
   obtain⟨rfl,hcq2,hco2⟩:=hcut;have STc:=Lib.hid hcq2;have OWc:=Lib.hid hco2;clear hcq2 hco2 c0 c1 c2 c3 c4 c5 r0 r1 rf l1 l2';obtain⟨⟨c0,c1,c2,c3,c4,c5⟩,⟨r0,r1⟩,rf,l1,l2'⟩:=STc.out.cells;go_wp2_with (first
    |(at_builtin;refine Zbo rfl _ _ rfl (w.heap.size+2) (.slice Aa l4.length ca) l4 rfl wc bd OWc.out (by omega) (by omega) rfl ?_;intro v6 w9 HO6 hb6 hg6;have SX:=Lib.hid (STc.out.low2 hb6);clear hb6 hg6;have hjn:=Zed HO6.out (by simp) (by rw [Hfin.out];have:=Hprl.out;omega) (by simp;omega);rw [Hfin.out] at hjn;clear c0 c1 c2 c3 c4 c5 r0 r1 rf l1 l2')
    |(go_at_call 27;refine hjn.mono ?_;rintro e wz ⟨rfl,hbz⟩;have SZ:=Lib.hid (SX.out.below hbz);clear hbz;obtain⟨⟨c0,c1,c2,c3,c4,c5⟩,⟨r0,r1⟩,rf,l1,l2'⟩:=SZ.out.cells))
   have F:=SZ.out.fin (.int .i64 0) (.int .i64 0);refine bodyPost_ret (ZaT rfl _ _ (w.heap.size+1) _ _ _ _ _ rfl rfl F.1 Tryz.underlying62 rfl (by kernel_rfl)) rfl ?_;rw [←hP];exact⟨F.2,rfl⟩
 · have Hv2:=Lib.hid hv2;have e2:(v==2)=false:=by simpa using hv2
   by_cases hv3:v=3
   · subst hv3;clear hgt hver;go_upto_region 7 with(first
      |(go_at_call 148;refine(hck _).mono ?_;rintro e w1 ⟨rfl,hb1⟩;have ST1:=Lib.hid (ST0.out.below hb1);clear hb1)
      |(go_at_call 7;refine(hbd _).mono ?_;rintro e w2 ⟨rfl,hb2⟩;have ST2:=Lib.hid ((ST1.out.alloc _).below hb2);clear hb2;obtain⟨⟨c0,c1,c2,c3,c4,c5⟩,⟨r0,r1⟩,rf,l1,l2'⟩:=ST2.out.cells)
      |(go_at_call 226;refine(hln _).mono ?_;rintro e w3 ⟨rfl,hb3⟩;have ST3:=Lib.hid (ST2.out.below hb3);clear hb3;clear c0 c1 c2 c3 c4 c5 r0 r1 rf l1 l2';obtain⟨⟨c0,c1,c2,c3,c4,c5⟩,⟨r0,r1⟩,rf,l1,l2'⟩:=ST3.out.cells))
     go_upto_region 8 with fail
     have OW1:Hid (OwS w (w3.alloc (.cells #[.string (B f.id)] 9)) (.slice (some ⟨w3.heap.size,0,none⟩) 1 1) [f.id]):=Lib.hid (World.ownsRow_lit (base:=w.heap.size+2) (e:=9) (size:=1) w3 #[.string (B f.id)] 1 (by have:=ST3.out.res.lt;omega) (by decide) rfl);have ST4:=Lib.hid (ST3.out.alloc (.cells #[.string (B f.id)] 9));clear c0 c1 c2 c3 c4 c5 r0 r1 rf l1 l2';obtain⟨⟨c0,c1,c2,c3,c4,c5⟩,⟨r0,r1⟩,rf,l1,l2'⟩:=ST4.out.cells;generalize hWW:w3.alloc (.cells #[.string (B f.id)] 9)=ww at*;clear hWW;go_cut [9] (fun s9 wx=>s9= .string (B [f.st,f.fm])∧QSt w wx f∧OwS w wx (.slice (some ⟨w3.heap.size,0,none⟩) 1 1) [f.id])
     case first=>
      go_region_held3 (fun w'=>w'.cell? ⟨w.heap.size,1,none⟩=some (.int .u8 f.st.toNat)∧w'.cell? ⟨w.heap.size,2,none⟩=some (.int .u8 f.fm.toNat))
       (first|with_reducible exact⟨ST4.out.drew.cells.1.2.1,ST4.out.drew.cells.1.2.2.1⟩|with_reducible exact⟨SB1.out.cells.1.2.1,SB1.out.cells.1.2.2.1⟩|with_reducible exact⟨SB2.out.cells.1.2.1,SB2.out.cells.1.2.2.1⟩|with_reducible exact⟨(SB2.out.alloc _).cells.1.2.1,(SB2.out.alloc _).cells.1.2.2.1⟩|with_reducible exact⟨SB3.out.cells.1.2.1,SB3.out.cells.1.2.2.1⟩)
       (first
        |(go_at_call 32;((with_reducible refine(ZdB _ _).mono ?_);rintro e wb ⟨rfl,hbb⟩);first|(have SB1:=Lib.hid (ST4.out.drew.below hbb);have OB1:=Lib.hid ((OwS.below OW1.out (Za8 (Below.refl _ _))).below hbb))|(have SB2:=Lib.hid (SB1.out.below hbb);have OB2:=Lib.hid (OB1.out.below hbb)))
        |(go_at_call 27;refine(hj2 _).mono ?_;rintro e wj ⟨rfl,hbj⟩;have SB3:=Lib.hid ((SB2.out.alloc _).below hbj);have OB3:=Lib.hid ((OwS.below OB2.out ((Below.refl _ _).alloc (Nat.le_refl _) _)).below hbj)))
      all_goals
       go_wp2_with fail
       go_meet
       exact⟨rfl,SB3.out,OB3.out⟩
     obtain⟨rfl,hcq,hco⟩:=hcut;have ST5:=Lib.hid hcq;have OW:=Lib.hid hco;clear hcq hco c0 c1 c2 c3 c4 c5 r0 r1 rf l1 l2';obtain⟨⟨c0,c1,c2,c3,c4,c5⟩,⟨r0,r1⟩,rf,l1,l2'⟩:=ST5.out.cells
     go_upto_block 0 with fail
     go_cut [8] (fun s8 wx=>QSt w wx f∧OwS w wx s8 l2)
     case first=>
      have hb3:=fun w=>ZeQ IL 4 (by omega) (by omega) (by omega) w;have hq:l2=[f.id]++[ZL (3:Int).toNat IL,[f.st,f.fm]]:=by have:=Hl2.out;simpa using this
      have hs3:ZL (3:Int).toNat IL=Zah IL 4:=rfl;rw [hs3] at hq;have Hq:=Lib.hid hq;clear hq hs3;go_wp2_with (first
       |(go_at_call 32;refine(hb3 _).mono ?_;rintro e w5 ⟨rfl,hb5⟩;have SU:=Lib.hid (ST5.out.below hb5);have OV:=Lib.hid (OW.out.below hb5);have hz5:=hb5.size;clear hb5)
       |(at_builtin;refine Zhj rfl _ _ rfl (w.heap.size+2) (.slice (some ⟨w3.heap.size,0,none⟩) 1 1) [f.id] rfl w5 (Zah IL 4) [f.st,f.fm] OV.out (by have:=SU.out.res.lt;omega) (by simp) rfl ?_;intro v6 w6 HO6 hb6 hg6;have SX:=Lib.hid (SU.out.low2 hb6);clear hb6 hg6))
      go_meet
      exact⟨SX.out,by rw [Hq.out];exact HO6.out⟩
     have ST6:=Lib.hid hcut.1;obtain⟨_,A6,c6,hv6,hc6⟩:=ZaL hcut.2;have OW6:=Lib.hid hcut.2;subst hv6;clear hcut c0 c1 c2 c3 c4 c5 r0 r1 rf l1 l2';obtain⟨⟨c0,c1,c2,c3,c4,c5⟩,⟨r0,r1⟩,rf,l1,l2'⟩:=ST6.out.cells
     go_upto_if 83 with(go_at_call 224;refine(hgr _).mono ?_;rintro e w7 ⟨rfl,hb7⟩;have ST7:=Lib.hid (ST6.out.below hb7);have OW7:=Lib.hid (OW6.out.below hb7);clear hb7 c0 c1 c2 c3 c4 c5 r0 r1 rf l1 l2';obtain⟨⟨c0,c1,c2,c3,c4,c5⟩,⟨r0,r1⟩,rf,l1,l2'⟩:=ST7.out.cells)
     go_cut [8] (fun s8 wx=>QSt w wx f∧OwS w wx s8 l3)
     case first=>
      have hbg:=fun w=>ZdB f.grp w;cases G with
      |true=>
       have Hq:Hid (l3=l2++[[f.grp]]):=Lib.hid (by have:=Hl3.out;simpa using this);go_wp2_with (first
        |(go_at_call 32;refine(hbg _).mono ?_;rintro e w8 ⟨rfl,hb8⟩;have SU:=Lib.hid (ST7.out.below hb8);have OV:=Lib.hid (OW7.out.below hb8);clear hb8)
        |(at_builtin;refine Zbo rfl _ _ rfl (w.heap.size+2) (.slice A6 l2.length c6) l2 rfl w8 [f.grp] OV.out (by have:=SU.out.res.lt;omega) (by omega) rfl ?_;intro v6 w9 HO6 hb6 hg6;have SX:=Lib.hid (SU.out.low2 hb6);clear hb6 hg6))
       go_meet
       exact⟨SX.out,by rw [Hq.out];exact HO6.out⟩
      |false=>
       have Hq:Hid (l3=l2):=Lib.hid (by have:=Hl3.out;simpa using this);go_wp2_with fail
       go_meet
       exact⟨ST7.out,by rw [Hq.out];exact OW7.out⟩
     have ST8:=Lib.hid hcut.1;obtain⟨_,A8,c8,hv8,hc8⟩:=ZaL hcut.2;have OW8:=Lib.hid hcut.2;subst hv8;clear hcut c0 c1 c2 c3 c4 c5 r0 r1 rf l1 l2';obtain⟨⟨c0,c1,c2,c3,c4,c5⟩,⟨r0,r1⟩,rf,l1,l2'⟩:=ST8.out.cells
     go_upto_if 94 with(go_at_call 227;refine(hms _).mono ?_;rintro e w7 ⟨rfl,hb7⟩;have ST9:=Lib.hid (ST8.out.below hb7);have OW9:=Lib.hid (OW8.out.below hb7);clear hb7 c0 c1 c2 c3 c4 c5 r0 r1 rf l1 l2';obtain⟨⟨c0,c1,c2,c3,c4,c5⟩,⟨r0,r1⟩,rf,l1,l2'⟩:=ST9.out.cells)
     go_cut [8] (fun s8 wx=>QSt w wx f∧OwS w wx s8 l4)
     case first=>
      have hbs:=fun w=>ZeX f.body.length (by omega) w;cases M with
      |true=>
       have Hq:Hid (l4=l3++[ZO f.body.length]):=Lib.hid (by have:=Hl4.out;simpa using this);go_wp2_with (first
        |(go_at_call 74;refine(hbs _).mono ?_;rintro e w8 ⟨rfl,hb8⟩;have SU:=Lib.hid (ST9.out.below hb8);have OV:=Lib.hid (OW9.out.below hb8);clear hb8)
        |(at_builtin;refine Zbo rfl _ _ rfl (w.heap.size+2) (.slice A8 l3.length c8) l3 rfl w8 (ZO f.body.length) OV.out (by have:=SU.out.res.lt;omega) (by omega) rfl ?_;intro v6 w9 HO6 hb6 hg6;have SX:=Lib.hid (SU.out.low2 hb6);clear hb6 hg6))
       go_meet
       exact⟨SX.out,by rw [Hq.out];exact HO6.out⟩
      |false=>
       have Hq:Hid (l4=l3):=Lib.hid (by have:=Hl4.out;simpa using this);go_wp2_with fail
       go_meet
       exact⟨ST9.out,by rw [Hq.out];exact OW9.out⟩
     have STa:=Lib.hid hcut.1;obtain⟨_,Aa,ca,hva,hca⟩:=ZaL hcut.2;have OWa:=Lib.hid hcut.2;subst hva;clear hcut c0 c1 c2 c3 c4 c5 r0 r1 rf l1 l2';obtain⟨⟨c0,c1,c2,c3,c4,c5⟩,⟨r0,r1⟩,rf,l1,l2'⟩:=STa.out.cells
     go_upto_if 112 with(go_at_call 228;refine(hsp _).mono ?_;rintro e w7 ⟨rfl,hb7⟩;have STb:=Lib.hid (STa.out.below hb7);have OWb:=Lib.hid (OWa.out.below hb7);clear hb7 c0 c1 c2 c3 c4 c5 r0 r1 rf l1 l2';obtain⟨⟨c0,c1,c2,c3,c4,c5⟩,⟨r0,r1⟩,rf,l1,l2'⟩:=STb.out.cells)
     go_cut [14] (fun s14 wx=>s14= .string (B bd)∧QSt w wx f∧OwS w wx (.slice Aa l4.length ca) l4)
     case first=>
      cases S with
      |true=>
       have Hq:Hid (bd=ZR f.body):=Lib.hid (by have:=Hbd.out;simpa using this);go_wp2_with (go_at_call 152;refine(hpt _).mono ?_;rintro e w8 ⟨rfl,hb8⟩)
       go_meet
       exact⟨by rw [Hq.out],STb.out.below hb8,OWb.out.below hb8⟩
      |false=>
       have Hq:Hid (bd=f.body):=Lib.hid (by have:=Hbd.out;simpa using this);go_wp2_with fail
       go_meet
       exact⟨by rw [Hq.out],STb.out,OWb.out⟩
     obtain⟨rfl,hcq2,hco2⟩:=hcut;have STc:=Lib.hid hcq2;have OWc:=Lib.hid hco2;clear hcq2 hco2 c0 c1 c2 c3 c4 c5 r0 r1 rf l1 l2';obtain⟨⟨c0,c1,c2,c3,c4,c5⟩,⟨r0,r1⟩,rf,l1,l2'⟩:=STc.out.cells;go_wp2_with (first
      |(at_builtin;refine Zbo rfl _ _ rfl (w.heap.size+2) (.slice Aa l4.length ca) l4 rfl wc bd OWc.out (by omega) (by omega) rfl ?_;intro v6 w9 HO6 hb6 hg6;have SX:=Lib.hid (STc.out.low2 hb6);clear hb6 hg6;have hjn:=Zed HO6.out (by simp) (by rw [Hfin.out];have:=Hprl.out;omega) (by simp;omega);rw [Hfin.out] at hjn;clear c0 c1 c2 c3 c4 c5 r0 r1 rf l1 l2')
      |(go_at_call 27;refine hjn.mono ?_;rintro e wz ⟨rfl,hbz⟩;have SZ:=Lib.hid (SX.out.below hbz);clear hbz;obtain⟨⟨c0,c1,c2,c3,c4,c5⟩,⟨r0,r1⟩,rf,l1,l2'⟩:=SZ.out.cells))
     have F:=SZ.out.fin (.int .i64 0) (.int .i64 0);refine bodyPost_ret (ZaT rfl _ _ (w.heap.size+1) _ _ _ _ _ rfl rfl F.1 Tryz.underlying62 rfl (by kernel_rfl)) rfl ?_;rw [←hP];exact⟨F.2,rfl⟩
   · have hv4:v=4:=by omega
     have e3:(v==3)=false:=by simpa using hv3
     subst hv4;clear hgt hver hv3 hv2;go_upto_region 7 with(first
      |(go_at_call 148;refine(hck _).mono ?_;rintro e w1 ⟨rfl,hb1⟩;have ST1:=Lib.hid (ST0.out.below hb1);clear hb1)
      |(go_at_call 7;refine(hbd _).mono ?_;rintro e w2 ⟨rfl,hb2⟩;have ST2:=Lib.hid ((ST1.out.alloc _).below hb2);clear hb2;obtain⟨⟨c0,c1,c2,c3,c4,c5⟩,⟨r0,r1⟩,rf,l1,l2'⟩:=ST2.out.cells)
      |(go_at_call 226;refine(hln _).mono ?_;rintro e w3 ⟨rfl,hb3⟩;have ST3:=Lib.hid (ST2.out.below hb3);clear hb3;clear c0 c1 c2 c3 c4 c5 r0 r1 rf l1 l2';obtain⟨⟨c0,c1,c2,c3,c4,c5⟩,⟨r0,r1⟩,rf,l1,l2'⟩:=ST3.out.cells))
     go_upto_region 8 with fail
     have OW1:Hid (OwS w (w3.alloc (.cells #[.string (B f.id)] 9)) (.slice (some ⟨w3.heap.size,0,none⟩) 1 1) [f.id]):=Lib.hid (World.ownsRow_lit (base:=w.heap.size+2) (e:=9) (size:=1) w3 #[.string (B f.id)] 1 (by have:=ST3.out.res.lt;omega) (by decide) rfl);have ST4:=Lib.hid (ST3.out.alloc (.cells #[.string (B f.id)] 9));clear c0 c1 c2 c3 c4 c5 r0 r1 rf l1 l2';obtain⟨⟨c0,c1,c2,c3,c4,c5⟩,⟨r0,r1⟩,rf,l1,l2'⟩:=ST4.out.cells;generalize hWW:w3.alloc (.cells #[.string (B f.id)] 9)=ww at*;clear hWW;go_cut [9] (fun s9 wx=>s9= .string (B [f.st,f.fm])∧QSt w wx f∧OwS w wx (.slice (some ⟨w3.heap.size,0,none⟩) 1 1) [f.id])
     case first=>
      go_region_held3 (fun w'=>w'.cell? ⟨w.heap.size,1,none⟩=some (.int .u8 f.st.toNat)∧w'.cell? ⟨w.heap.size,2,none⟩=some (.int .u8 f.fm.toNat))
       (first|with_reducible exact⟨ST4.out.drew.cells.1.2.1,ST4.out.drew.cells.1.2.2.1⟩|with_reducible exact⟨SB1.out.cells.1.2.1,SB1.out.cells.1.2.2.1⟩|with_reducible exact⟨SB2.out.cells.1.2.1,SB2.out.cells.1.2.2.1⟩|with_reducible exact⟨(SB2.out.alloc _).cells.1.2.1,(SB2.out.alloc _).cells.1.2.2.1⟩|with_reducible exact⟨SB3.out.cells.1.2.1,SB3.out.cells.1.2.2.1⟩)
       (first
        |(go_at_call 32;((with_reducible refine(ZdB _ _).mono ?_);rintro e wb ⟨rfl,hbb⟩);first|(have SB1:=Lib.hid (ST4.out.drew.below hbb);have OB1:=Lib.hid ((OwS.below OW1.out (Za8 (Below.refl _ _))).below hbb))|(have SB2:=Lib.hid (SB1.out.below hbb);have OB2:=Lib.hid (OB1.out.below hbb)))
        |(go_at_call 27;refine(hj2 _).mono ?_;rintro e wj ⟨rfl,hbj⟩;have SB3:=Lib.hid ((SB2.out.alloc _).below hbj);have OB3:=Lib.hid ((OwS.below OB2.out ((Below.refl _ _).alloc (Nat.le_refl _) _)).below hbj)))
      all_goals
       go_wp2_with fail
       go_meet
       exact⟨rfl,SB3.out,OB3.out⟩
     obtain⟨rfl,hcq,hco⟩:=hcut;have ST5:=Lib.hid hcq;have OW:=Lib.hid hco;clear hcq hco c0 c1 c2 c3 c4 c5 r0 r1 rf l1 l2';obtain⟨⟨c0,c1,c2,c3,c4,c5⟩,⟨r0,r1⟩,rf,l1,l2'⟩:=ST5.out.cells
     go_upto_block 0 with fail
     go_cut [8] (fun s8 wx=>QSt w wx f∧OwS w wx s8 l2)
     case first=>
      have hb3:=fun w=>ZeX IL (by omega) w;have hq:l2=[f.id]++[ZL (4:Int).toNat IL,[f.st,f.fm]]:=by have:=Hl2.out;simpa using this
      have hs3:ZL (4:Int).toNat IL=ZO IL:=rfl;rw [hs3] at hq;have Hq:=Lib.hid hq;clear hq hs3;go_wp2_with (first
       |(go_at_call 74;refine(hb3 _).mono ?_;rintro e w5 ⟨rfl,hb5⟩;have SU:=Lib.hid (ST5.out.below hb5);have OV:=Lib.hid (OW.out.below hb5);have hz5:=hb5.size;clear hb5)
       |(at_builtin;refine Zhj rfl _ _ rfl (w.heap.size+2) (.slice (some ⟨w3.heap.size,0,none⟩) 1 1) [f.id] rfl w5 (ZO IL) [f.st,f.fm] OV.out (by have:=SU.out.res.lt;omega) (by simp) rfl ?_;intro v6 w6 HO6 hb6 hg6;have SX:=Lib.hid (SU.out.low2 hb6);clear hb6 hg6))
      go_meet
      exact⟨SX.out,by rw [Hq.out];exact HO6.out⟩
     have ST6:=Lib.hid hcut.1;obtain⟨_,A6,c6,hv6,hc6⟩:=ZaL hcut.2;have OW6:=Lib.hid hcut.2;subst hv6;clear hcut c0 c1 c2 c3 c4 c5 r0 r1 rf l1 l2';obtain⟨⟨c0,c1,c2,c3,c4,c5⟩,⟨r0,r1⟩,rf,l1,l2'⟩:=ST6.out.cells
     go_upto_if 83 with(go_at_call 224;refine(hgr _).mono ?_;rintro e w7 ⟨rfl,hb7⟩;have ST7:=Lib.hid (ST6.out.below hb7);have OW7:=Lib.hid (OW6.out.below hb7);clear hb7 c0 c1 c2 c3 c4 c5 r0 r1 rf l1 l2';obtain⟨⟨c0,c1,c2,c3,c4,c5⟩,⟨r0,r1⟩,rf,l1,l2'⟩:=ST7.out.cells)
     go_cut [8] (fun s8 wx=>QSt w wx f∧OwS w wx s8 l3)
     case first=>
      have hbg:=fun w=>ZdB f.grp w;cases G with
      |true=>
       have Hq:Hid (l3=l2++[[f.grp]]):=Lib.hid (by have:=Hl3.out;simpa using this);go_wp2_with (first
        |(go_at_call 32;refine(hbg _).mono ?_;rintro e w8 ⟨rfl,hb8⟩;have SU:=Lib.hid (ST7.out.below hb8);have OV:=Lib.hid (OW7.out.below hb8);clear hb8)
        |(at_builtin;refine Zbo rfl _ _ rfl (w.heap.size+2) (.slice A6 l2.length c6) l2 rfl w8 [f.grp] OV.out (by have:=SU.out.res.lt;omega) (by omega) rfl ?_;intro v6 w9 HO6 hb6 hg6;have SX:=Lib.hid (SU.out.low2 hb6);clear hb6 hg6))
       go_meet
       exact⟨SX.out,by rw [Hq.out];exact HO6.out⟩
      |false=>
       have Hq:Hid (l3=l2):=Lib.hid (by have:=Hl3.out;simpa using this);go_wp2_with fail
       go_meet
       exact⟨ST7.out,by rw [Hq.out];exact OW7.out⟩
     have ST8:=Lib.hid hcut.1;obtain⟨_,A8,c8,hv8,hc8⟩:=ZaL hcut.2;have OW8:=Lib.hid hcut.2;subst hv8;clear hcut c0 c1 c2 c3 c4 c5 r0 r1 rf l1 l2';obtain⟨⟨c0,c1,c2,c3,c4,c5⟩,⟨r0,r1⟩,rf,l1,l2'⟩:=ST8.out.cells
     go_upto_if 94 with(go_at_call 227;refine(hms _).mono ?_;rintro e w7 ⟨rfl,hb7⟩;have ST9:=Lib.hid (ST8.out.below hb7);have OW9:=Lib.hid (OW8.out.below hb7);clear hb7 c0 c1 c2 c3 c4 c5 r0 r1 rf l1 l2';obtain⟨⟨c0,c1,c2,c3,c4,c5⟩,⟨r0,r1⟩,rf,l1,l2'⟩:=ST9.out.cells)
     go_cut [8] (fun s8 wx=>QSt w wx f∧OwS w wx s8 l4)
     case first=>
      have hbs:=fun w=>ZeX f.body.length (by omega) w;cases M with
      |true=>
       have Hq:Hid (l4=l3++[ZO f.body.length]):=Lib.hid (by have:=Hl4.out;simpa using this);go_wp2_with (first
        |(go_at_call 74;refine(hbs _).mono ?_;rintro e w8 ⟨rfl,hb8⟩;have SU:=Lib.hid (ST9.out.below hb8);have OV:=Lib.hid (OW9.out.below hb8);clear hb8)
        |(at_builtin;refine Zbo rfl _ _ rfl (w.heap.size+2) (.slice A8 l3.length c8) l3 rfl w8 (ZO f.body.length) OV.out (by have:=SU.out.res.lt;omega) (by omega) rfl ?_;intro v6 w9 HO6 hb6 hg6;have SX:=Lib.hid (SU.out.low2 hb6);clear hb6 hg6))
       go_meet
       exact⟨SX.out,by rw [Hq.out];exact HO6.out⟩
      |false=>
       have Hq:Hid (l4=l3):=Lib.hid (by have:=Hl4.out;simpa using this);go_wp2_with fail
       go_meet
       exact⟨ST9.out,by rw [Hq.out];exact OW9.out⟩
     have STa:=Lib.hid hcut.1;obtain⟨_,Aa,ca,hva,hca⟩:=ZaL hcut.2;have OWa:=Lib.hid hcut.2;subst hva;clear hcut c0 c1 c2 c3 c4 c5 r0 r1 rf l1 l2';obtain⟨⟨c0,c1,c2,c3,c4,c5⟩,⟨r0,r1⟩,rf,l1,l2'⟩:=STa.out.cells
     go_upto_if 112 with(go_at_call 228;refine(hsp _).mono ?_;rintro e w7 ⟨rfl,hb7⟩;have STb:=Lib.hid (STa.out.below hb7);have OWb:=Lib.hid (OWa.out.below hb7);clear hb7 c0 c1 c2 c3 c4 c5 r0 r1 rf l1 l2';obtain⟨⟨c0,c1,c2,c3,c4,c5⟩,⟨r0,r1⟩,rf,l1,l2'⟩:=STb.out.cells)
     go_cut [14] (fun s14 wx=>s14= .string (B bd)∧QSt w wx f∧OwS w wx (.slice Aa l4.length ca) l4)
     case first=>
      cases S with
      |true=>
       have Hq:Hid (bd=ZR f.body):=Lib.hid (by have:=Hbd.out;simpa using this);go_wp2_with (go_at_call 152;refine(hpt _).mono ?_;rintro e w8 ⟨rfl,hb8⟩)
       go_meet
       exact⟨by rw [Hq.out],STb.out.below hb8,OWb.out.below hb8⟩
      |false=>
       have Hq:Hid (bd=f.body):=Lib.hid (by have:=Hbd.out;simpa using this);go_wp2_with fail
       go_meet
       exact⟨by rw [Hq.out],STb.out,OWb.out⟩
     obtain⟨rfl,hcq2,hco2⟩:=hcut;have STc:=Lib.hid hcq2;have OWc:=Lib.hid hco2;clear hcq2 hco2 c0 c1 c2 c3 c4 c5 r0 r1 rf l1 l2';obtain⟨⟨c0,c1,c2,c3,c4,c5⟩,⟨r0,r1⟩,rf,l1,l2'⟩:=STc.out.cells;go_wp2_with (first
      |(at_builtin;refine Zbo rfl _ _ rfl (w.heap.size+2) (.slice Aa l4.length ca) l4 rfl wc bd OWc.out (by omega) (by omega) rfl ?_;intro v6 w9 HO6 hb6 hg6;have SX:=Lib.hid (STc.out.low2 hb6);clear hb6 hg6;have hjn:=Zed HO6.out (by simp) (by rw [Hfin.out];have:=Hprl.out;omega) (by simp;omega);rw [Hfin.out] at hjn;clear c0 c1 c2 c3 c4 c5 r0 r1 rf l1 l2')
      |(go_at_call 27;refine hjn.mono ?_;rintro e wz ⟨rfl,hbz⟩;have SZ:=Lib.hid (SX.out.below hbz);clear hbz;obtain⟨⟨c0,c1,c2,c3,c4,c5⟩,⟨r0,r1⟩,rf,l1,l2'⟩:=SZ.out.cells))
     have F:=SZ.out.fin (.int .i64 0) (.int .i64 0);refine bodyPost_ret (ZaT rfl _ _ (w.heap.size+1) _ _ _ _ _ rfl rfl F.1 Tryz.underlying62 rfl (by kernel_rfl)) rfl ?_;rw [←hP];exact⟨F.2,rfl⟩
theorem ZnF (f:Fr)(v:Int)(h1:f.id.length≤200000000)(h2:f.body.length≤200000000)(w:World):
 Calls Tryz.prog 150 #[.agg #[.string (B f.id),.int .u8 f.st.toNat,.int .u8 f.fm.toNat,.int .u8 f.grp.toNat,.string (B f.body),.int .i64 f.at_],.int .i64 v] w (Zda w (fpR v.toNat f)):=by
 cases hok:okF v.toNat f with
 |false=>exact ZnG f v h1 h2 hok w
 |true=>
  by_cases hg:268435455<(Zg v.toNat f).length∨(v.toNat=2∧16777215<(Zg v.toNat f).length)
  · exact ZnH f v h1 h2 hok hg w
  · exact ZnI f v h1 h2 hok hg w
end Go.Proofs.YtecandjkbbpooaaGreatDoor
