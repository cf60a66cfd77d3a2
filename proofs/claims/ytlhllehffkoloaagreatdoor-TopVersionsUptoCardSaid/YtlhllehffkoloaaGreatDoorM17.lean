/- Lemmas for TopVersions; conditions: as each says. -/
import Derived.Laws.Tables
import Derived.Laws.Rows
import Derived.Deep.WholeRow
import Derived.Test.YtlhllehffkoloaaGreatDoorM16
set_option linter.unusedVariables false
set_option linter.unusedSimpArgs false
set_option maxRecDepth 100000
set_option maxHeartbeats 4000000
namespace Go.Proofs.YtlhllehffkoloaaGreatDoor
open Go Go.RowKit
def ZaS (v:Nat)(fl:UInt8)(f:Fr):Bool:= !okF v f||(v==4&&(ZL fl&&f.fm&&&2==0))
def ZbJ (v:Nat)(rev fl:UInt8):Bool:=decide (ZA v=0)||(rev==255||fl&&& ~~~(Zdp v) !=0)
def Zcl (v:Nat)(rev fl:UInt8)(fs:List Fr):Nat×Nat:=
 if ZbJ v rev fl then(5,0) else match fs.findIdx? (ZaS v fl) with
  |some i=>(5,i)
  |none=>if 4096<fs.length then(4,4096) else(0,0)
theorem Zrt (v:Nat):Zbl v&&& ~~~64=Zdp v:=by
 unfold Zbl Zdp;split
 · decide
 · split
   · decide
   · split<;>decide
theorem Zg.at6 {w:World} {bk:Nat} {l:List Fr} (h:∀j u,(l.flatMap frV)[j]? =some u→w.cell? ⟨bk,j,none⟩=some u){k:Nat} {f:Fr} (hx:l[k]? =some f):
 w.cell? ⟨bk,k*6,none⟩=some (.string (B f.id))∧w.cell? ⟨bk,k*6+1,none⟩=some (.int .u8 f.st.toNat)∧w.cell? ⟨bk,k*6+2,none⟩=some (.int .u8 f.fm.toNat)∧w.cell? ⟨bk,k*6+3,none⟩=some (.int .u8 f.grp.toNat)∧w.cell? ⟨bk,k*6+4,none⟩=some (.string (B f.body))∧w.cell? ⟨bk,k*6+5,none⟩=some (.int .i64 f.at_):=by
 have q:∀j,j<6→(l.flatMap frV)[k*6+j]? =(frV f)[j]?:=fun j hj=>ZgE 6 frV ZsP l k j f hx hj;exact⟨h _ _ (q 0 (by decide)),h _ _ (q 1 (by decide)),h _ _ (q 2 (by decide)),h _ _ (q 3 (by decide)),h _ _ (q 4 (by decide)),h _ _ (q 5 (by decide))⟩
def Zf6 (w:World)(r:Nat×Nat)(e:Ending)(w':World):Prop:=e= .returned (.agg #[.int .i64 r.1,.int .i64 r.2])∧Below w.heap.size w w'
structure CSt (w0 wx:World)(v:Int)(rev fl:UInt8)(sl:Value):Prop where
 tg:Bx wx w0.heap.size #[.int .i64 v,.int .u8 rev.toNat,.int .u8 fl.toNat,sl] 36
 res:Bx wx (w0.heap.size+1) #[.int .i64 0,.int .i64 0] 39
 low:Below w0.heap.size w0 wx
section
variable {w0 w w':World} {v:Int} {rev fl:UInt8} {sl:Value}
theorem CSt.below (h:CSt w0 w v rev fl sl)(hb:Below w.heap.size w w'):CSt w0 w' v rev fl sl:=⟨h.tg.below hb,h.res.below hb,h.low.trans (hb.mono h.low.size)⟩
theorem CSt.alloc (h:CSt w0 w v rev fl sl)(o:Obj):CSt w0 (w.alloc o) v rev fl sl:=h.below ((Below.refl _ _).alloc (Nat.le_refl _) _)
theorem CSt.cells (h:CSt w0 w v rev fl sl):(w.cell? ⟨w0.heap.size,0,none⟩=some (.int .i64 v)∧w.cell? ⟨w0.heap.size,1,none⟩=some (.int .u8 rev.toNat)∧w.cell? ⟨w0.heap.size,2,none⟩=some (.int .u8 fl.toNat)∧w.cell? ⟨w0.heap.size,3,none⟩=some sl)∧
 (w.cell? ⟨w0.heap.size+1,0,none⟩=some (.int .i64 0)∧w.cell? ⟨w0.heap.size+1,1,none⟩=some (.int .i64 0))∧(∀j,w.frozen? ⟨w0.heap.size+1,j,none⟩=false)∧w0.heap.size<w.heap.size∧w0.heap.size+2≤w.heap.size:=
 ⟨⟨h.tg.cell 0,h.tg.cell 1,h.tg.cell 2,h.tg.cell 3⟩,⟨h.res.cell 0,h.res.cell 1⟩,h.res.free,h.tg.lt,h.res.lt⟩
theorem CSt.fin (h:CSt w0 w v rev fl sl)(x y:Value):Bx ((w.setCell ⟨w0.heap.size+1,0,none⟩ x).setCell ⟨w0.heap.size+1,1,none⟩ y) (w0.heap.size+1) #[x,y] 39∧Below w0.heap.size w0 ((w.setCell ⟨w0.heap.size+1,0,none⟩ x).setCell ⟨w0.heap.size+1,1,none⟩ y):=
 ⟨Zbo h.res x y,(h.low.setCell (p:=⟨w0.heap.size+1,0,none⟩) (Nat.le_succ _) x).setCell (p:=⟨w0.heap.size+1,1,none⟩) (Nat.le_succ _) y⟩
end
theorem ck_at {v:Nat} {rev fl:UInt8} {fs:List Fr} {k:Nat} (hw:ZbJ v rev fl=false)(hk:k<fs.length)(hb:ZaS v fl fs[k]=true)(hbf:∀j (h:j<fs.length),j<k→ZaS v fl fs[j]=false):Zcl v rev fl fs=(5,k):=by
 unfold Zcl;rw [if_neg (by rw [hw];decide)];have:fs.findIdx? (ZaS v fl)=some k:=List.findIdx?_eq_some_iff_getElem.2 ⟨hk,hb,fun j hj=>by rw [hbf j (by omega) hj];decide⟩;rw [this]
theorem ck_end {v:Nat} {rev fl:UInt8} {fs:List Fr} (hw:ZbJ v rev fl=false)(hbf:∀j (h:j<fs.length),j<fs.length→ZaS v fl fs[j]=false):Zcl v rev fl fs=if 4096<fs.length then(4,4096) else(0,0):=by
 unfold Zcl;rw [if_neg (by rw [hw];decide)];have:fs.findIdx? (ZaS v fl)=none:=List.findIdx?_eq_none_iff.2 fun x hx=>by
  obtain⟨j,hj,rfl⟩:=List.getElem_of_mem hx;exact hbf j hj hj
 rw [this]
def CkRel (vn:Nat)(fl:UInt8)(w0:World)(v:Int)(rev:UInt8)(sl:Value)(fs:List Fr)(i:Value)(wx:World):Prop:=∃k:Nat,k≤fs.length∧i= .int .i64 k∧CSt w0 wx v rev fl sl∧∀j (h:j<fs.length),j<k→ZaS vn fl fs[j]=false
theorem ZqO (v:Int)(rev fl:UInt8)(A:Option Addr)(c:Nat)(fs:List Fr)(B0:Nat)(w:World)(hr:Zg frV B0 w (.slice A fs.length c) fs)(hn:fs.length≤100000)(hid:∀f∈fs,f.id.length≤1000000000):
 Calls Tryz.prog 16 #[.agg #[.int .i64 v,.int .u8 rev.toNat,.int .u8 fl.toNat,.slice A fs.length c]] w (Zf6 w (Zcl v.toNat rev fl fs)):=by
 generalize hP:Zf6 w (Zcl v.toNat rev fl fs)=P at*;have hal:=fun w=>Zj3 v w;have hLt:=fun w=>Zfj v w;have han:=Zgr (Zbl v.toNat) 64 64 rfl;rw [Zrt] at han;obtain⟨bits8,hb8⟩:∃x,x=Zdp v.toNat:=⟨_,rfl⟩
 rw [←hb8] at han;obtain⟨x8,hx8⟩:∃x,x=fl&&& ~~~bits8:=⟨_,rfl⟩
 have han2:=Zgr fl bits8.toNat bits8 rfl;rw [←hx8] at han2;have Hwt:Hid (ZbJ v.toNat rev fl=(decide (ZA v.toNat=0)||(rev==255||x8 !=0))):=Lib.hid (by rw [hx8,hb8];rfl);have ST0:Hid (CSt w ((w.alloc (.cells #[.int .i64 v,.int .u8 rev.toNat,.int .u8 fl.toNat,.slice A fs.length c] 36)).alloc (.cells #[.int .i64 0,.int .i64 0] 39)) v rev fl (.slice A fs.length c)):=Lib.hid ⟨(Bx.new w _ _).alloc _,by have:=Bx.new (w.alloc (.cells #[.int .i64 v,.int .u8 rev.toNat,.int .u8 fl.toNat,.slice A fs.length c] 36)) #[.int .i64 0,.int .i64 0] 39;rw [World.size_alloc] at this;exact this,((Below.refl _ _).alloc (Nat.le_refl _) _).alloc (by simp) _⟩;have HR:=Lib.hid hr;clear hb8 hx8 hr;generalize Zbl v.toNat=al8 at*;obtain⟨⟨c0,c1,c2,c3⟩,⟨r0,r1⟩,rf,l1,l2⟩:=ST0.out.cells;go_enter Tryz.func16,Tryz.ntmps16
 go_upto_region 2 with(go_at_call 36;refine(hal _).mono ?_;rintro e w1 ⟨rfl,rfl⟩)
 generalize hWW:(w.alloc (.cells #[.int .i64 v,.int .u8 rev.toNat,.int .u8 fl.toNat,.slice A fs.length c] 36)).alloc (.cells #[.int .i64 0,.int .i64 0] 39)=ww at*;clear hWW;go_cut [30] (fun s30 wx=>s30= .bool (ZbJ v.toNat rev fl)∧wx=ww)
 case first=>
  have hw:=Hwt.out;by_cases h0:ZA v.toNat=0
  · have hv:((ZA v.toNat:Int)==0)=true:=by rw [h0];rfl
    have Hw:Hid (ZbJ v.toNat rev fl=true):=Lib.hid (by rw [hw,h0];rfl);clear hw h0;go_wp2_with (go_at_call 37;refine(hLt _).mono ?_;rintro e w1 ⟨rfl,rfl⟩)
    go_meet
    exact⟨by rw [Hw.out],rfl⟩
  · have hv:((ZA v.toNat:Int)==0)=false:=by rw [beq_eq_false_iff_ne];omega
    rw [show decide (ZA v.toNat=0)=false by simpa using h0,Bool.false_or] at hw;by_cases h5:rev=255
    · have hv5:((rev.toNat:Int)==255)=true:=by rw [h5];rfl
      have Hw:Hid (ZbJ v.toNat rev fl=true):=Lib.hid (by rw [hw,h5];rfl);clear hw h0 h5;go_wp2_with (go_at_call 37;refine(hLt _).mono ?_;rintro e w1 ⟨rfl,rfl⟩)
      go_meet
      exact⟨by rw [Hw.out],rfl⟩
    · have hv5:((rev.toNat:Int)==255)=false:=by rw [beq_eq_false_iff_ne];exact fun e=>h5 (UInt8.toNat_inj.1 (by show rev.toNat=255;omega))
      rw [show(rev==255)=false by simpa using h5,Bool.false_or] at hw;have hx:=Zdz x8;rw [←hw] at hx;generalize ZbJ v.toNat rev fl=wt at*;clear hw h0 h5;cases wt with
      |true=>
       go_wp2_with (go_at_call 37;refine(hLt _).mono ?_;rintro e w1 ⟨rfl,rfl⟩)
       go_meet
       exact⟨rfl,rfl⟩
      |false=>
       go_wp2_with (go_at_call 37;refine(hLt _).mono ?_;rintro e w1 ⟨rfl,rfl⟩)
       go_meet
       exact⟨rfl,rfl⟩
 obtain⟨rfl,rfl⟩:=hcut;cases hW:ZbJ v.toNat rev fl with
 |true=>
  go_wp2_with fail
  have F:=ST0.out.fin (.int .i64 5) (.int .i64 0);refine bodyPost_ret (results_cell_row rfl _ _ (w.heap.size+1) _ _ _ _ rfl F.1 Tryz.underlying39 rfl (by kernel_rfl)) rfl ?_;rw [←hP];refine⟨?_,F.2⟩;unfold Zcl;rw [if_pos hW];rfl
 |false=>
  have HW:=Lib.hid hW;clear hW;have hrow:∀(k:Nat) (f:Fr),fs[k]? =some f→∃bk,A=some ⟨bk,0,none⟩∧bk<w.heap.size∧∀j u,(fs.flatMap frV)[j]? =some u→w.cell? ⟨bk,j,none⟩=some u:=by
   intro k f hk;rcases HR.out with⟨h0,_⟩|⟨bk,c',h0,h1,h2,h5,h3,h4⟩
   · rw [h0] at hk;simp at hk
   · simp only [Value.slice.injEq] at h1;exact⟨bk,h1.1,h3,h4⟩
  have Hrow:=Lib.hid hrow;clear hrow;go_wp2_with fail
  go_loopw [35] (fun i wx=>CkRel v.toNat fl w v rev (.slice A fs.length c) fs i wx) (fun i _=>fs.length - (intOf i).toNat)
  case atStart=>exact⟨0,Nat.zero_le _,rfl,ST0.out,fun j _ h=>by omega⟩
  case round=>
   obtain⟨k,hk,rfl,hst,hbf⟩:=hrel;have ST:=Lib.hid hst;have Hbf:=Lib.hid hbf;clear hst hbf c0 c1 c2 c3 r0 r1 rf l1 l2;obtain⟨⟨c0,c1,c2,c3⟩,⟨r0,r1⟩,rf,l1,l2⟩:=ST.out.cells;by_cases hlt:k<fs.length
   · obtain⟨f,hf⟩:∃f,fs[k]? =some f:=⟨_,List.getElem?_eq_getElem hlt⟩
     obtain⟨bk,hA,hbk,hcl⟩:=Hrow.out k f hf;have Hcl:=Lib.hid (Zg.at6 (w:=wr) (fun j u hu=>(ST.out.low.cell (p:=⟨bk,j,none⟩) hbk).trans (hcl j u hu)) hf);have Hf:=Lib.hid hf;have hck:=fun w=>Zgb f v (hid f (List.mem_of_getElem? hf)) w;clear hcl hf;obtain⟨y0,y1,y2,y3,y4,y5⟩:=Hcl.out;subst hA;have hbk2:bk<wr.heap.size:=Nat.lt_of_lt_of_le hbk ST.out.low.size;cases hok:okF v.toNat f with
     |false=>
      rw [show ckF v.toNat f=5 by unfold ckF;rw [hok];rfl] at hck;have hbd:=fun w=>ZaY 5 0 (by decide) w;have Hbad:Hid (ZaS v.toNat fl f=true):=Lib.hid (by unfold ZaS;rw [hok];rfl);clear hok;go_wp2_with (first
       |(go_at_call 38;refine(hck _).mono ?_;rintro e w1 ⟨rfl,hb1⟩;have ST1:=Lib.hid ((ST.out.alloc _).below hb1);have FB:=Lib.hid ((Bx.new wr (six f) 33).below hb1);clear hb1)
       |(go_at_call 11;refine(hbd _).mono ?_;rintro e w2 ⟨rfl,hb2⟩;have ST2:=Lib.hid ((ST1.out.alloc _).below hb2);have GB:=Lib.hid ((Bx.new w1 _ _).below hb2);clear hb2 c0 c1 c2 c3 r0 r1 rf l1 l2;obtain⟨⟨c0,c1,c2,c3⟩,⟨r0,r1⟩,rf,l1,l2⟩:=ST2.out.cells;have x0:=GB.out.cell 0;have x1:=GB.out.cell 1;have xl:=GB.out.lt))
      have F:=ST2.out.fin (.int .i64 5) (.int .i64 k);refine bodyPost_ret (results_cell_row rfl _ _ (w.heap.size+1) _ _ _ _ rfl F.1 Tryz.underlying39 rfl (by kernel_rfl)) rfl ?_;rw [←hP];refine⟨?_,F.2⟩;rw [ck_at HW.out hlt (by have h9:=Hf.out;rw [List.getElem?_eq_getElem hlt] at h9;injection h9 with h9;rw [h9];exact Hbad.out) Hbf.out];rfl
     |true=>
      rw [show ckF v.toNat f=0 by unfold ckF;rw [hok];rfl] at hck;have hbd:=fun w=>Z0 0 0 rfl w;have hsp:=fun w=>ZhV v rev fl w;have Hbd:Hid (ZaS v.toNat fl f=(v.toNat==4&&(ZL fl&&f.fm&&&2==0))):=Lib.hid (by unfold ZaS;rw [hok];rfl);clear hok;generalize ZL fl=sp at*;go_upto_region 10 with(first
       |(go_at_call 38;refine(hck _).mono ?_;rintro e w1 ⟨rfl,hb1⟩;have ST1:=Lib.hid ((ST.out.alloc _).below hb1);have FB:=Lib.hid ((Bx.new wr (six f) 33).below hb1);clear hb1)
       |(go_at_call 11;refine(hbd _).mono ?_;rintro e w2 ⟨rfl,hb2⟩;have ST2:=Lib.hid ((ST1.out.alloc _).below hb2);have GB:Hid (Zq w2 wr.heap.size f):=Lib.hid (Bx.below (FB.out.alloc _) hb2);clear hb2 c0 c1 c2 c3 r0 r1 rf l1 l2;obtain⟨⟨c0,c1,c2,c3⟩,⟨r0,r1⟩,rf,l1,l2⟩:=ST2.out.cells;obtain⟨x0,x1,x2,x3,x4,x5⟩:=GB.out.get;have xl:=GB.out.lt))
      go_cut [66] (fun s66 wx=>s66= .bool (ZaS v.toNat fl f)∧CSt w wx v rev fl (.slice (some ⟨bk,0,none⟩) fs.length c))
      case first=>
       have hb:=Hbd.out;have han3:=Zcj f.fm 2 2 rfl;by_cases h4:v=4
       · subst h4;rw [show((4:Int).toNat==4)=true from rfl,Bool.true_and] at hb;cases sp with
         |true=>
          rw [Bool.true_and] at hb;by_cases h2:f.fm&&&2=0
          · have hq:(((f.fm.toNat&&&2:Nat):Int)==0)=true:=by
             have:=congrArg UInt8.toNat h2;rw [UInt8.toNat_and] at this;rw [beq_iff_eq];exact_mod_cast this
            have Hb:Hid (ZaS (4:Int).toNat fl f=true):=Lib.hid (by rw [hb];simpa using h2);clear hb h2;go_wp2_with (go_at_call 39;refine(hsp _).mono ?_;rintro e w3 ⟨rfl,hb3⟩;have ST3:=Lib.hid (ST2.out.below hb3);have GB3:=Lib.hid (Zq.below GB.out hb3);clear hb3 x0 x1 x2 x3 x4 x5;obtain⟨x0,x1,x2,x3,x4,x5⟩:=GB3.out.get)
            go_meet
            exact⟨by rw [Hb.out],ST3.out⟩
          · have hq:(((f.fm.toNat&&&2:Nat):Int)==0)=false:=by
             rw [beq_eq_false_iff_ne];intro e;apply h2
             apply UInt8.toNat_inj.1
             rw [UInt8.toNat_and];exact_mod_cast e
            have Hb:Hid (ZaS (4:Int).toNat fl f=false):=Lib.hid (by rw [hb];simpa using h2);clear hb h2;go_wp2_with (go_at_call 39;refine(hsp _).mono ?_;rintro e w3 ⟨rfl,hb3⟩;have ST3:=Lib.hid (ST2.out.below hb3);have GB3:=Lib.hid (Zq.below GB.out hb3);clear hb3 x0 x1 x2 x3 x4 x5;obtain⟨x0,x1,x2,x3,x4,x5⟩:=GB3.out.get)
            go_meet
            exact⟨by rw [Hb.out],ST3.out⟩
         |false=>
          rw [Bool.false_and] at hb;have Hb:=Lib.hid hb;clear hb;go_wp2_with (go_at_call 39;refine(hsp _).mono ?_;rintro e w3 ⟨rfl,hb3⟩;have ST3:=Lib.hid (ST2.out.below hb3);clear hb3)
          go_meet
          exact⟨by rw [Hb.out],ST3.out⟩
       · have hv4:(v==4)=false:=by simpa using h4
         rw [show(v.toNat==4)=false by rw [beq_eq_false_iff_ne];omega,Bool.false_and] at hb;have Hb:=Lib.hid hb;clear hb h4;go_wp2_with fail
         go_meet
         exact⟨by rw [Hb.out],ST2.out⟩
      obtain⟨rfl,hcut⟩:=hcut;have ST4:=Lib.hid hcut;clear hcut c0 c1 c2 c3 r0 r1 rf l1 l2;obtain⟨⟨c0,c1,c2,c3⟩,⟨r0,r1⟩,rf,l1,l2⟩:=ST4.out.cells;have hfk:fs[k]=f:=by have h9:=Hf.out;rw [List.getElem?_eq_getElem hlt] at h9;injection h9
      have Hfk:=Lib.hid hfk;clear hfk;cases hbb:ZaS v.toNat fl f with
      |true=>
       have Hbb:=Lib.hid hbb;clear hbb;go_wp2_with fail
       have F:=ST4.out.fin (.int .i64 5) (.int .i64 k);refine bodyPost_ret (results_cell_row rfl _ _ (w.heap.size+1) _ _ _ _ rfl F.1 Tryz.underlying39 rfl (by kernel_rfl)) rfl ?_;rw [←hP];refine⟨?_,F.2⟩;rw [ck_at HW.out hlt (by rw [Hfk.out];exact Hbb.out) Hbf.out];rfl
      |false=>
       have Hbb:=Lib.hid hbb;clear hbb;go_wp2_with fail
       go_roundw
       case rel=>
        refine⟨k+1,by omega,by go_num,ST4.out,fun j hj hjk=> ?_⟩;by_cases e:j=k
        · subst e;rw [Hfk.out];exact Hbb.out
        · exact Hbf.out j hj (by omega)
       case measure=>simp [intOf];omega
   · have hk2:k=fs.length:=by omega
     subst hk2;have hce:=ck_end HW.out Hbf.out;by_cases hg:4096<fs.length
     · have hg2:(fs.length:Int)>4096:=by omega
       rw [if_pos hg] at hce;have Hce:=Lib.hid hce;clear hce hg;go_wp2_with fail
       have F:=ST.out.fin (.int .i64 4) (.int .i64 4096);refine bodyPost_ret (results_cell_row rfl _ _ (w.heap.size+1) _ _ _ _ rfl F.1 Tryz.underlying39 rfl (by kernel_rfl)) rfl ?_;rw [←hP];exact⟨by rw [Hce.out];rfl,F.2⟩
     · have hg2:¬(fs.length:Int)>4096:=by omega
       rw [if_neg hg] at hce;have Hce:=Lib.hid hce;clear hce hg;go_wp2_with fail
       have F:=ST.out.fin (.int .i64 0) (.int .i64 0);refine bodyPost_ret (results_cell_row rfl _ _ (w.heap.size+1) _ _ _ _ rfl F.1 Tryz.underlying39 rfl (by kernel_rfl)) rfl ?_;rw [←hP];exact⟨by rw [Hce.out];rfl,F.2⟩
theorem ZqP (a:Option Addr)(n c:Nat)(hn:n=0)(w:World):
 Calls Tryz.prog 19 #[.slice a n c] w fun e w'=>e= .returned (.string ⟨#[]⟩)∧w=w':=by
 subst hn;have hj:=Tryz.strings_Join_none a c ⟨#[]⟩;go_enter Tryz.func19,Tryz.ntmps19
 go_wp2_with (go_at_call 44;refine(hj _).mono ?_;rintro e w1 ⟨rfl,rfl⟩)
 go_ret
 exact⟨rfl,rfl⟩
theorem Zkp {base:Nat} {v:Value} {l:List (List UInt8)} {w:World} (h:w.ownsRow base 9 1 v l.length (l.map sV))(hf:l.flatten.length≤35184372089000)(hn:l.length≤35184372089000):
 Calls Tryz.prog 19 #[v] w fun e w'=>e= .returned (.string (B l.flatten))∧Below w.heap.size w w':=by
 by_cases hl:l=[]
 · subst hl;obtain⟨_,A,c,rfl,_⟩:=ZaQ h;refine(ZqP A _ c rfl w).mono ?_;rintro e w' ⟨rfl,rfl⟩;exact⟨rfl,Below.refl _ _⟩
 · exact ZeC h hl hf hn
def Zah (v:Nat)(fs:List Fr)(k:Nat):List (List UInt8):=(fs.take k).map (Zv v)
theorem ZuC (v:Nat)(fs:List Fr)(k:Nat)(f:Fr)(h:fs[k]? =some f):Zah v fs (k+1)=Zah v fs k++[Zv v f]:=by
 unfold Zah;rw [List.take_add_one,h];simp
theorem ZnH (v:Nat)(fs:List Fr)(k:Nat):(Zah v fs k).flatten.length≤((fs.map (Zv v)).flatten).length:=by
 have:fs.map (Zv v)=Zah v fs k++(fs.drop k).map (Zv v):=by
  unfold Zah;rw [←List.map_append,List.take_append_drop]
 rw [this,List.flatten_append,List.length_append];omega
theorem fr_le (v:Nat)(f:Fr):f.id.length≤(Zv v f).length∧f.body.length≤(Zv v f).length∧(Ze v f).length≤(Zv v f).length:=by
 have:=Zlk v f;have h:Zv v f=f.id++(ZO v (Ze v f).length++(Zag v f++Ze v f)):=rfl;rw [h];simp only [List.length_append];omega
structure ESt (w0 wx:World)(v:Int)(rev fl:UInt8)(sl vl:Value)(l:List (List UInt8)):Prop where
 st:CSt w0 wx v rev fl sl
 own:OwS w0 wx vl l
theorem ESt.below {w0 w w':World} {v:Int} {rev fl:UInt8} {sl vl:Value} {l:List (List UInt8)} (h:ESt w0 w v rev fl sl vl l)(hb:Below w.heap.size w w'):ESt w0 w' v rev fl sl vl l:=⟨h.st.below hb,h.own.below hb⟩
theorem CSt.low2 {w0 w w':World} {v:Int} {rev fl:UInt8} {sl:Value} (h:CSt w0 w v rev fl sl)(hb:Below (w0.heap.size+2) w w'):CSt w0 w' v rev fl sl:=
 ⟨(hb.block _ (by omega)).trans h.tg,(hb.block _ (by omega)).trans h.res,h.low.trans (hb.mono (by omega))⟩
def BdRel (vn:Nat)(w0:World)(v:Int)(rev fl:UInt8)(sl:Value)(fs:List Fr)(vl m i:Value)(wx:World):Prop:=∃k:Nat,k≤fs.length∧i= .int .i64 k∧m= .int .i64 ((Zah vn fs k).flatten.length:Nat)∧ESt w0 wx v rev fl sl vl (Zah vn fs k)
def Zdj (w:World)(s:List UInt8)(e:Ending)(w':World):Prop:=e= .returned (.tuple #[.string (B s),.agg #[.int .i64 0,.int .i64 0]])∧Below w.heap.size w w'
theorem ZqN (v:Int)(rev fl:UInt8)(A:Option Addr)(c:Nat)(fs:List Fr)(B0:Nat)(w:World)(hr:Zg frV B0 w (.slice A fs.length c) fs)(hn:fs.length≤100000)(hok:∀f∈fs,okF v.toNat f=true)
 (h2:v=2→∀f∈fs,(Ze 2 f).length≤16777215) (hsum:((fs.map (Zv v.toNat)).flatten).length≤130000000):
 Calls Tryz.prog 17 #[.agg #[.int .i64 v,.int .u8 rev.toNat,.int .u8 fl.toNat,.slice A fs.length c]] w (Zdj w (Z2 ⟨v.toNat,rev,fl,fs⟩)):=by
 generalize hP:Zdj w (Z2 ⟨v.toNat,rev,fl,fs⟩)=P at*;have HPb:Hid (Z2 ⟨v.toNat,rev,fl,fs⟩=if ZcU v.toNat fl then ZS (Zah v.toNat fs fs.length).flatten else(Zah v.toNat fs fs.length).flatten):=Lib.hid (by unfold Z2 ZcD Zah;rw [List.take_length]);have ST0:Hid (CSt w ((w.alloc (.cells #[.int .i64 v,.int .u8 rev.toNat,.int .u8 fl.toNat,.slice A fs.length c] 36)).alloc (.cells #[.int .i64 0,.int .i64 0] 39)) v rev fl (.slice A fs.length c)):=Lib.hid ⟨(Bx.new w _ _).alloc _,by have:=Bx.new (w.alloc (.cells #[.int .i64 v,.int .u8 rev.toNat,.int .u8 fl.toNat,.slice A fs.length c] 36)) #[.int .i64 0,.int .i64 0] 39;rw [World.size_alloc] at this;exact this,((Below.refl _ _).alloc (Nat.le_refl _) _).alloc (by simp) _⟩;obtain⟨⟨c0,c1,c2,c3⟩,⟨r0,r1⟩,rf,l1,l2⟩:=ST0.out.cells;have Hrow:Hid (∀(k:Nat) (f:Fr),fs[k]? =some f→∃bk,A=some ⟨bk,0,none⟩∧bk<w.heap.size∧∀j u,(fs.flatMap frV)[j]? =some u→w.cell? ⟨bk,j,none⟩=some u):=Lib.hid (by
  intro k f hk;rcases hr with⟨h0,_⟩|⟨bk,c',h0,h1,h2,h5,h3,h4⟩
  · rw [h0] at hk;simp at hk
  · simp only [Value.slice.injEq] at h1;exact⟨bk,h1.1,h3,h4⟩)
 have Hok:=Lib.hid hok;have H2:=Lib.hid h2;have Hsum:=Lib.hid hsum;clear hr hok h2 hsum;go_enter Tryz.func17,Tryz.ntmps17
 go_wp2_with fail
 go_loopw [4,5,15] (fun vl m i wx=>BdRel v.toNat w v rev fl (.slice A fs.length c) fs vl m i wx) (fun _ _ i _=>fs.length - (intOf i).toNat)
 case atStart=>exact⟨0,Nat.zero_le _,rfl,rfl,ST0.out,⟨rfl,.inl ⟨rfl,rfl⟩⟩⟩
 case round=>
  obtain⟨k,hk,rfl,rfl,hst⟩:=hrel;obtain⟨_,A4,c4,hv4,hc4⟩:=ZaQ hst.own;subst hv4;have ST:=Lib.hid hst;have hml:=ZnH v.toNat fs k;have hs0:=Hsum.out;have hbl:(Zah v.toNat fs k).flatten.length≤130000000:=by omega
  have hpn:(Zah v.toNat fs k).length≤100000:=by unfold Zah;simp;omega
  clear hst c0 c1 c2 c3 r0 r1 rf l1 l2 hml hs0;obtain⟨⟨c0,c1,c2,c3⟩,⟨r0,r1⟩,rf,l1,l2⟩:=ST.out.st.cells;by_cases hlt:k<fs.length
  · obtain⟨f,hf⟩:∃f,fs[k]? =some f:=⟨_,List.getElem?_eq_getElem hlt⟩
    obtain⟨bk,hA,hbk,hcl⟩:=Hrow.out k f hf;obtain⟨y0,y1,y2,y3,y4,y5⟩:=Zg.at6 (w:=wr) (fun j u hu=>(ST.out.st.low.cell (p:=⟨bk,j,none⟩) hbk).trans (hcl j u hu)) hf;have hmem:=List.mem_of_getElem? hf;have hps:=ZuC v.toNat fs k f hf;have hml2:=ZnH v.toNat fs (k+1);have hs0:=Hsum.out;have hfle:=fr_le v.toNat f;have hlen1:(Zah v.toNat fs (k+1)).flatten.length=(Zah v.toNat fs k).flatten.length+(Zv v.toNat f).length:=by rw [hps];simp
    have hpr:∀w:World,Calls Tryz.prog 40 #[.agg #[.string (B f.id),.int .u8 f.st.toNat,.int .u8 f.fm.toNat,.int .u8 f.grp.toNat,.string (B f.body),.int .i64 f.at_],.int .i64 v] w fun e w'=>e= .returned (.tuple #[.string (B (Zv v.toNat f)),.agg #[.int .i64 0,.int .i64 0]])∧Below w.heap.size w w':=by
     intro w;refine(Zpg f v (by omega) (by omega) w).mono ?_;intro e w' h;have hfp:fpR v.toNat f= .ok (Zv v.toNat f):=by
      unfold fpR;rw [if_neg (by rw [Hok.out f hmem];decide),if_neg];rintro(h|⟨h,h'⟩)
      · omega
      · have:=H2.out (by omega) f hmem;rw [h] at h';omega
     unfold Zdl at h;rw [hfp] at h;exact⟨h.2,h.1⟩
    have Hps:=Lib.hid hps;have Hlen1:=Lib.hid hlen1;have hl9:(Zah v.toNat fs k).flatten.length+(Zv v.toNat f).length≤130000000:=by omega
    have hszp:=Zn (Zv v.toNat f);have hbk2:bk<wr.heap.size:=Nat.lt_of_lt_of_le hbk ST.out.st.low.size;have hbd:=fun w=>Z0 0 0 rfl w;subst hA;clear hcl hf hmem hps hlen1 hml2 hs0 hfle;generalize (Zah v.toNat fs k).flatten.length=N at*;generalize Zv v.toNat f=pf at*;go_wp2_with (first
     |(go_at_call 40;refine(hpr _).mono ?_;rintro e w1 ⟨rfl,hb1⟩;have ST1:=Lib.hid ((ESt.below ST.out ((Below.refl _ _).alloc (Nat.le_refl _) _)).below hb1);clear hb1)
     |(go_at_call 11;refine(hbd _).mono ?_;rintro e w2 ⟨rfl,hb2⟩;have ST2:=Lib.hid ((ESt.below ST1.out ((Below.refl _ _).alloc (Nat.le_refl _) _)).below hb2);clear hb2;have hz2:=ST2.out.st.res.lt)
     |(at_builtin;refine Zbm rfl _ _ rfl (w.heap.size+2) (.slice A4 (Zah v.toNat fs k).length c4) (Zah v.toNat fs k) rfl w2 pf ST2.out.own (by omega) (by omega) rfl ?_;intro v6 w9 HO6 hb6 hg6;have SX:=Lib.hid (ST2.out.st.low2 hb6);clear hb6 hg6))
    go_roundw
    case rel=>exact⟨k+1,by omega,by go_num,by rw [Hlen1.out];go_num,SX.out,by rw [Hps.out];exact HO6.out⟩
    case measure=>simp [intOf];omega
  · have hk2:k=fs.length:=by omega
    subst hk2;have hwh:=fun w=>ZkP v rev fl w;obtain⟨b,hb⟩:∃b,b=(Zah v.toNat fs fs.length).flatten:=⟨_,rfl⟩
    have hpb:=HPb.out;rw [←hb] at hpb hbl;have HPb2:=Lib.hid hpb;have hszb:=Zn b;have hex:=fun w=>ZhB b (by omega) w;have hel:=Zdt b;have hpt:=fun w=>Zkx b (by omega) w;have hjn:∀wx,OwS w wx (.slice A4 (Zah v.toNat fs fs.length).length c4) (Zah v.toNat fs fs.length)→Calls Tryz.prog 19 #[.slice A4 (Zah v.toNat fs fs.length).length c4] wx fun e w'=>e= .returned (.string (B b))∧Below wx.heap.size wx w':=by
     intro wx h;rw [hb];exact Zkp h (by rw [←hb];omega) (by omega)
    rw [←hb];clear hpb hb;generalize (Zah v.toNat fs fs.length).length=pl at*;generalize ZaG b=E at*;cases hW:ZcU v.toNat fl with
    |false=>
     rw [hW] at hwh;have HB:Hid (Z2 ⟨v.toNat,rev,fl,fs⟩=b):=Lib.hid (by rw [HPb2.out,hW];rfl);clear hW;go_wp2_with (first
      |(go_at_call 19;refine(hjn _ (ESt.below ST.out ((Below.refl _ _).alloc (Nat.le_refl _) _)).own).mono ?_;rintro e w3 ⟨rfl,hb3⟩;have S3:=Lib.hid ((CSt.alloc ST.out.st _).below hb3);clear hb3 c0 c1 c2 c3 r0 r1 rf l1 l2;obtain⟨⟨c0,c1,c2,c3⟩,⟨r0,r1⟩,rf,l1,l2⟩:=S3.out.cells)
      |(go_at_call 41;refine(hwh _).mono ?_;rintro e w4 ⟨rfl,hb4⟩;have S4:=Lib.hid (S3.out.below hb4);clear hb4 c0 c1 c2 c3 r0 r1 rf l1 l2;obtain⟨⟨c0,c1,c2,c3⟩,⟨r0,r1⟩,rf,l1,l2⟩:=S4.out.cells))
     have F:=S4.out.fin (.int .i64 0) (.int .i64 0);refine bodyPost_ret (ZcQ rfl _ _ (w.heap.size+1) _ _ _ _ _ rfl rfl F.1 Tryz.underlying39 rfl (by kernel_rfl)) rfl ?_;rw [←hP,HB.out];exact⟨rfl,F.2⟩
    |true=>
     rw [hW] at hwh;have HB:Hid (Z2 ⟨v.toNat,rev,fl,fs⟩=ZS b):=Lib.hid (by rw [HPb2.out,hW];rfl);clear hW;go_wp2_with (first
      |(go_at_call 19;refine(hjn _ (ESt.below ST.out ((Below.refl _ _).alloc (Nat.le_refl _) _)).own).mono ?_;rintro e w3 ⟨rfl,hb3⟩;have S3:=Lib.hid ((CSt.alloc ST.out.st _).below hb3);clear hb3 c0 c1 c2 c3 r0 r1 rf l1 l2;obtain⟨⟨c0,c1,c2,c3⟩,⟨r0,r1⟩,rf,l1,l2⟩:=S3.out.cells)
      |(go_at_call 41;refine(hwh _).mono ?_;rintro e w4 ⟨rfl,hb4⟩;have S4:=Lib.hid (S3.out.below hb4);clear hb4 c0 c1 c2 c3 r0 r1 rf l1 l2)
      |(go_at_call 42;refine(hex _).mono ?_;rintro e w5 ⟨rfl,rfl⟩)
      |(go_at_call 43;refine(hpt _).mono ?_;rintro e w6 ⟨rfl,hb6⟩;have S5:=Lib.hid (S4.out.below hb6);clear hb6;obtain⟨⟨c0,c1,c2,c3⟩,⟨r0,r1⟩,rf,l1,l2⟩:=S5.out.cells))
     have F:=S5.out.fin (.int .i64 0) (.int .i64 0);refine bodyPost_ret (ZcQ rfl _ _ (w.heap.size+1) _ _ _ _ _ rfl rfl F.1 Tryz.underlying39 rfl (by kernel_rfl)) rfl ?_;rw [←hP,HB.out];exact⟨rfl,F.2⟩
theorem Zh5 (v:Nat)(rev fl:UInt8)(fs:List Fr):(Z2 ⟨v,rev,fl,fs⟩).length≤2*((fs.map (Zv v)).flatten).length:=by
 unfold Z2 ZcD;have h1:=Zej ((fs.map (Zv v)).flatten);have h2:=Zdt ((fs.map (Zv v)).flatten);simp only;split<;>omega
theorem Zwo {v:Int} {rev fl:UInt8} (h:ZbJ v.toNat rev fl=false):v=2∨v=3∨v=4:=by
 unfold ZbJ at h;simp only [Bool.or_eq_false_iff,decide_eq_false_iff_not] at h;have:=h.1;unfold ZA at this;split at this
 · omega
 · split at this<;>omega
theorem CSt.keep3 {w0 w:World} {v:Int} {rev fl:UInt8} {sl:Value} (h:CSt w0 w v rev fl sl):w.cell? ⟨w0.heap.size,0,none⟩=some (.int .i64 v)∧w.cell? ⟨w0.heap.size,1,none⟩=some (.int .u8 rev.toNat)∧w.cell? ⟨w0.heap.size,2,none⟩=some (.int .u8 fl.toNat):=⟨h.tg.cell 0,h.tg.cell 1,h.tg.cell 2⟩
theorem ZkO (v:Int)(rev fl:UInt8)(A:Option Addr)(c:Nat)(fs:List Fr)(B0:Nat)(w:World)(hr:Zg frV B0 w (.slice A fs.length c) fs)(hn:fs.length≤100000)(hid:∀f∈fs,f.id.length≤1000000000)(hwr:ZbJ v.toNat rev fl=false)(hck:Zcl v.toNat rev fl fs=(0,0))(hok:∀f∈fs,okF v.toNat f=true)
 (h2:v=2→∀f∈fs,(Ze 2 f).length≤16777215) (hsum:((fs.map (Zv v.toNat)).flatten).length≤130000000):
 Calls Tryz.prog 8 #[.agg #[.int .i64 v,.int .u8 rev.toNat,.int .u8 fl.toNat,.slice A fs.length c]] w (Zdj w (ZJ ⟨v.toNat,rev,fl,fs⟩)):=by
 have hver:=Zwo hwr;have hbl:=Zh5 v.toNat rev fl fs;have hpt:ZJ ⟨v.toNat,rev,fl,fs⟩=ZT++(([UInt8.ofNat v.toNat,rev,fl]++ZR (Z2 ⟨v.toNat,rev,fl,fs⟩).length)++(Z2 ⟨v.toNat,rev,fl,fs⟩++(if ZbX v.toNat fl then Za1++([UInt8.ofNat v.toNat,rev,fl]++ZR (Z2 ⟨v.toNat,rev,fl,fs⟩).length) else []))):=rfl;generalize hP:Zdj w (ZJ ⟨v.toNat,rev,fl,fs⟩)=P at*;have ST0:Hid (CSt w ((w.alloc (.cells #[.int .i64 v,.int .u8 rev.toNat,.int .u8 fl.toNat,.slice A fs.length c] 36)).alloc (.cells #[.int .i64 0,.int .i64 0] 39)) v rev fl (.slice A fs.length c)):=Lib.hid ⟨(Bx.new w _ _).alloc _,by have:=Bx.new (w.alloc (.cells #[.int .i64 v,.int .u8 rev.toNat,.int .u8 fl.toNat,.slice A fs.length c] 36)) #[.int .i64 0,.int .i64 0] 39;rw [World.size_alloc] at this;exact this,((Below.refl _ _).alloc (Nat.le_refl _) _).alloc (by simp) _⟩;have hchk:∀wx,Below w.heap.size w wx→Calls Tryz.prog 16 #[.agg #[.int .i64 v,.int .u8 rev.toNat,.int .u8 fl.toNat,.slice A fs.length c]] wx fun e w'=>e= .returned (.agg #[.int .i64 0,.int .i64 0])∧Below wx.heap.size wx w':=by
  intro wx hb;have:=ZqO v rev fl A c fs B0 wx (hr.below hb) hn hid;rw [hck] at this;exact this
 have hbdy:∀wx,Below w.heap.size w wx→Calls Tryz.prog 17 #[.agg #[.int .i64 v,.int .u8 rev.toNat,.int .u8 fl.toNat,.slice A fs.length c]] wx (Zdj wx (Z2 ⟨v.toNat,rev,fl,fs⟩)):=fun wx hb=>ZqN v rev fl A c fs B0 wx (hr.below hb) hn hok h2 hsum;unfold Zdj at hbdy;have hbl2:(Z2 ⟨v.toNat,rev,fl,fs⟩).length≤260000000:=by omega
 have hsf:=fun w=>Zfm (Z2 ⟨v.toNat,rev,fl,fs⟩).length (by omega) w;have hszb:=Zn (Z2 ⟨v.toNat,rev,fl,fs⟩);have hft:=fun w=>ZkN v rev fl w;have hbd:=fun w=>Z0 0 0 rfl w;have Hpt:=Lib.hid hpt;clear hr hid hck hok h2 hsum hbl hpt hwr;generalize ZJ ⟨v.toNat,rev,fl,fs⟩=PT at*;generalize Z2 ⟨v.toNat,rev,fl,fs⟩=bd at*;have hszl:(ZR bd.length).length=4:=rfl;generalize ZR bd.length=sz at*;generalize ZbX v.toNat fl=FT at*;have hv0:0≤v∧v≤4:=by omega
 have hbv:∀w,Calls Tryz.prog 20 #[.int .u64 v,.int .i64 1] w fun e w'=>e= .returned (.string (B [UInt8.ofNat v.toNat]))∧Below w.heap.size w w':=by
  intro w;have:=Zfh v.toNat 1 (by omega) (by omega) (by omega) w;rw [Int.toNat_of_nonneg hv0.1] at this;have e:Zal v.toNat 1=[UInt8.ofNat v.toNat]:=by
   simp only [Zal,Nat.pow_zero,Nat.div_one];rw [Nat.mod_eq_of_lt (by omega)]
  rw [e] at this;exact this
 generalize UInt8.ofNat v.toNat=v8 at*;have hj4:∀w:World,Calls Tryz.prog 19 #[.slice (some ⟨w.heap.size,0,none⟩) 4 4] (w.alloc (.cells #[.string (B [v8]),.string (B [rev]),.string (B [fl]),.string (B sz)] 9)) fun e w'=>e= .returned (.string (B ([v8,rev,fl]++sz)))∧Below (w.alloc (.cells #[.string (B [v8]),.string (B [rev]),.string (B [fl]),.string (B sz)] 9)).heap.size (w.alloc (.cells #[.string (B [v8]),.string (B [rev]),.string (B [fl]),.string (B sz)] 9)) w':=fun w=>by
  have:=ZhI [[v8],[rev],[fl],sz] (by simp) (by simp;omega) (by simp) w;have e:([[v8],[rev],[fl],sz]:List (List UInt8)).flatten=[v8,rev,fl]++sz:=by simp
  rw [e] at this;exact this
 have hl1:=rev.toNat_lt;have hl2:=fl.toNat_lt;have hwp0:IntKind.u64.wrap v=v:=by rw [IntKind.wrap_u64];omega
 have hwp1:IntKind.u64.wrap (rev.toNat:Int)=rev.toNat:=by rw [IntKind.wrap_u64];omega
 have hwp2:IntKind.u64.wrap (fl.toNat:Int)=fl.toNat:=by rw [IntKind.wrap_u64];omega
 obtain⟨⟨c0,c1,c2,c3⟩,⟨r0,r1⟩,rf,l1,l2⟩:=ST0.out.cells;go_enter Tryz.func8,Tryz.ntmps8
 go_upto_region 8 with(first
  |(go_at_call 16;refine(hchk _ ST0.out.low).mono ?_;rintro e w1 ⟨rfl,hb1⟩;have ST1:=Lib.hid (ST0.out.below hb1);clear hb1)
  |(go_at_call 11;refine(hbd _).mono ?_;rintro e w2 ⟨rfl,hb2⟩;first|(have ST2:=Lib.hid ((ST1.out.alloc (.cells #[.int .i64 0,.int .i64 0] 39)).below hb2);clear hb2 c0 c1 c2 c3 r0 r1 rf l1 l2;obtain⟨⟨c0,c1,c2,c3⟩,⟨r0,r1⟩,rf,l1,l2⟩:=ST2.out.cells)|(have ST4:=Lib.hid ((ST3.out.alloc (.cells #[.int .i64 0,.int .i64 0] 39)).below hb2);clear hb2 c0 c1 c2 c3 r0 r1 rf l1 l2;obtain⟨⟨c0,c1,c2,c3⟩,⟨r0,r1⟩,rf,l1,l2⟩:=ST4.out.cells))
  |(go_at_call 17;refine(hbdy _ ST2.out.low).mono ?_;rintro e w3 ⟨rfl,hb3⟩;have ST3:=Lib.hid (ST2.out.below hb3);clear hb3)
  |(go_at_call 18;refine(hsf _).mono ?_;rintro e w5 ⟨rfl,hb5⟩;have ST5:=Lib.hid (ST4.out.below hb5);clear hb5 c0 c1 c2 c3 r0 r1 rf l1 l2;obtain⟨⟨c0,c1,c2,c3⟩,⟨r0,r1⟩,rf,l1,l2⟩:=ST5.out.cells))
 go_cut [9] (fun s9 wx=>s9= .string (B ([v8,rev,fl]++sz))∧CSt w wx v rev fl (.slice A fs.length c))
 case first=>
  go_region_held3 (fun w'=>w'.cell? ⟨w.heap.size,0,none⟩=some (.int .i64 v)∧w'.cell? ⟨w.heap.size,1,none⟩=some (.int .u8 rev.toNat)∧w'.cell? ⟨w.heap.size,2,none⟩=some (.int .u8 fl.toNat))
   (first|with_reducible exact(CSt.keep3 (ST5.out.below (Zck (Below.refl _ _))))|with_reducible exact CSt.keep3 SB1.out|with_reducible exact CSt.keep3 SB2.out|with_reducible exact CSt.keep3 SB3.out|with_reducible exact CSt.keep3 (SB3.out.alloc _)|with_reducible exact CSt.keep3 SB4.out)
   (first
   |(go_at_call 20;(first|((with_reducible refine(hbv _).mono ?_);rintro e wb ⟨rfl,hbb⟩)|((with_reducible refine(ZdO _ _).mono ?_);rintro e wb ⟨rfl,hbb⟩));first|(have SB1:=Lib.hid ((ST5.out.below (Zck (Below.refl _ _))).below hbb))|(have SB2:=Lib.hid (SB1.out.below hbb))|(have SB3:=Lib.hid (SB2.out.below hbb)))
   |(go_at_call 19;refine(hj4 _).mono ?_;rintro e wj ⟨rfl,hbj⟩;have SB4:=Lib.hid ((SB3.out.alloc _).below hbj)))
  all_goals
   go_wp2_with fail
   go_meet
   exact⟨rfl,SB4.out⟩
 obtain⟨rfl,hcut⟩:=hcut;have ST6:=Lib.hid hcut;clear hcut c0 c1 c2 c3 r0 r1 rf l1 l2;obtain⟨⟨c0,c1,c2,c3⟩,⟨r0,r1⟩,rf,l1,l2⟩:=ST6.out.cells
 go_upto_if 54 with(go_at_call 21;refine(hft _).mono ?_;rintro e w7 ⟨rfl,hb7⟩;have OV:=Lib.hid (OwS.below (show OwS w (wc.alloc (.cells #[.string ⟨#[73,68,51]⟩,.string (B ([v8,rev,fl]++sz)),.string (B bd)] 9)) (.slice (some ⟨wc.heap.size,0,none⟩) 3 3) [ZT,[v8,rev,fl]++sz,bd] from World.ownsRow_lit (base:=w.heap.size+2) (e:=9) (size:=1) wc #[.string ⟨#[73,68,51]⟩,.string (B ([v8,rev,fl]++sz)),.string (B bd)] 3 (by omega) (by decide) rfl) hb7);have ST7:=Lib.hid ((ST6.out.alloc _).below hb7);clear hb7 c0 c1 c2 c3 r0 r1 rf l1 l2;obtain⟨⟨c0,c1,c2,c3⟩,⟨r0,r1⟩,rf,l1,l2⟩:=ST7.out.cells)
 go_cut [10] (fun s10 wx=>CSt w wx v rev fl (.slice A fs.length c)∧OwS w wx s10 ([ZT,[v8,rev,fl]++sz,bd]++if FT then [Za1,[v8,rev,fl]++sz] else []))
 case first=>
  cases FT with
  |true=>
   go_wp2_with (at_builtin;refine Zh1 rfl _ _ rfl (w.heap.size+2) (.slice (some ⟨wc.heap.size,0,none⟩) 3 3) [ZT,[v8,rev,fl]++sz,bd] rfl w7 Za1 ([v8,rev,fl]++sz) OV.out (by omega) (by simp) rfl ?_;intro v6 w9 HO6 hb6 hg6;have SX:=Lib.hid (ST7.out.low2 hb6);clear hb6 hg6)
   go_meet
   exact⟨SX.out,HO6.out⟩
  |false=>
   go_wp2_with fail
   go_meet
   exact⟨ST7.out,OV.out⟩
 have ST8:=Lib.hid hcut.1;have OW8:=Lib.hid hcut.2;obtain⟨_,A8,c8,hv8,hc8⟩:=ZaQ hcut.2;subst hv8;have hfl:([ZT,[v8,rev,fl]++sz,bd]++if FT then [Za1,[v8,rev,fl]++sz] else []).flatten=PT:=by
  rw [Hpt.out];cases FT<;>simp
 have hjn:∀wx,wx=wc→Calls Tryz.prog 19 #[.slice A8 ([ZT,[v8,rev,fl]++sz,bd]++if FT then [Za1,[v8,rev,fl]++sz] else []).length c8] wx fun e w'=>e= .returned (.string (B PT))∧Below wx.heap.size wx w':=by
  rintro wx rfl;have:=Zkp OW8.out (by rw [hfl,Hpt.out];cases FT<;>simp [ZT,Za1]<;>omega) (by cases FT<;>simp);rw [hfl] at this;exact this
 clear hcut hfl c0 c1 c2 c3 r0 r1 rf l1 l2;obtain⟨⟨c0,c1,c2,c3⟩,⟨r0,r1⟩,rf,l1,l2⟩:=ST8.out.cells;generalize ([ZT,[v8,rev,fl]++sz,bd]++if FT then [Za1,[v8,rev,fl]++sz] else []).length=n8 at*;go_wp2_with (go_at_call 19;refine(hjn _ rfl).mono ?_;rintro e wz ⟨rfl,hbz⟩;have SZ:=Lib.hid (ST8.out.below hbz);clear hbz c0 c1 c2 c3 r0 r1 rf l1 l2;obtain⟨⟨c0,c1,c2,c3⟩,⟨r0,r1⟩,rf,l1,l2⟩:=SZ.out.cells)
 have F:=SZ.out.fin (.int .i64 0) (.int .i64 0);refine bodyPost_ret (ZcQ rfl _ _ (w.heap.size+1) _ _ _ _ _ rfl rfl F.1 Tryz.underlying39 rfl (by kernel_rfl)) rfl ?_;rw [←hP];exact⟨rfl,F.2⟩
theorem setRow_other (w:World)(g k:Nat)(cs:Array Value)(h:k≠g):(w.setRow g cs).heap[k]? =w.heap[k]?:=by
 unfold World.setRow;rw [Array.getElem?_modify,if_neg (fun e=>h e.symm)]
theorem size_setRow (w:World)(g:Nat)(cs:Array Value):(w.setRow g cs).heap.size=w.heap.size:=by
 unfold World.setRow;simp
theorem Bx.row {w:World} {g:Nat} {old:Array Value} {T:TypeId} (h:Bx w g old T)(cs:Array Value):Bx (w.setRow g cs) g cs T:=setRow_heap w g old cs T (0,0) h
theorem Bx.rowO {w:World} {g k:Nat} {old:Array Value} {T:TypeId} (h:Bx w g old T)(hk:g≠k)(cs:Array Value):Bx (w.setRow k cs) g old T:=(setRow_other w k g cs hk).trans h
theorem Zld {B g:Nat} {a w:World} (h:Below B a w)(hg:B≤g)(cs:Array Value):Below B a (w.setRow g cs):=
 ⟨h.os,h.tape,h.output,by rw [size_setRow];exact h.size,fun k hk=>(setRow_other w g k cs (by omega)).trans (h.block k hk)⟩
theorem Zry {C:Nat} {w:World} (cs:Array Value):But C w.heap.size w (w.setRow C cs):=
 ⟨rfl,rfl,rfl,by rw [size_setRow];exact Nat.le_refl _,fun k _ hc=>setRow_other w C k cs hc⟩
end Go.Proofs.YtlhllehffkoloaaGreatDoor
namespace Go.Proofs.YtlhllehffkoloaaGreatDoor
open Go
def cut1:List UInt8→Option (List UInt8×List UInt8)
 |[]=>none
 |x::r=>if x=0 then some ([],r) else match cut1 r with|none=>none|some q=>some (x::q.1,q.2)
def Zdr:List UInt8→Option (List UInt8×List UInt8)
 |x::y::r=>if x=0∧y=0 then some ([],r) else match Zdr r with|none=>none|some q=>some (x::y::q.1,q.2)
 |_=>none
def ZeJ (w:Nat)(l:List UInt8):Option (List UInt8×List UInt8):=if w=1 then cut1 l else Zdr l
def Ze2:List UInt8→Bool
 |x::y::r=> !(x==0&&y==0)&&Ze2 r
 |[]=>true
 |_=>false
theorem Zii:∀(s r:List UInt8),s.all (· !=0)=true→cut1 (s++0::r)=some (s,r)
 |[],r,_=>by simp [cut1]
 |x::s,r,h=>by
  simp only [List.all_cons,Bool.and_eq_true] at h;have hx:¬x=0:=by simpa using h.1
  simp [cut1,hx,Zii s r h.2]
theorem ZlC:∀(s r:List UInt8),Ze2 s=true→Zdr (s++0::0::r)=some (s,r)
 |[],r,_=>by simp [Zdr]
 |[x],r,h=>by simp [Ze2] at h
 |x::y::s,r,h=>by
  simp only [Ze2,Bool.and_eq_true] at h;have hx:¬(x=0∧y=0):=by
   rintro⟨rfl,rfl⟩;simp at h
  simp [Zdr,hx,ZlC s r h.2]
def InS.until (s:InS)(w:Nat):List UInt8×InS:=
 if s.e≠0 then([],s) else
 match ZeJ w (s.t.drop s.n) with
 |none=>([],s.short)
 |some q=>(q.1,{s with n:=s.n+q.1.length+w})
theorem InS.until_mk (b:Nat)(p x z r:List UInt8)(w:Nat)(hz:z.length=w)(h:ZeJ w (x++(z++r))=some (x,r)):
 (InS.mk' b p (x++(z++r))).until w=(x,InS.mk' b (p++(x++z)) r):=by
 have hd:(p++(x++(z++r))).drop p.length=x++(z++r):=by simp
 simp only [InS.until,InS.mk',ne_eq,not_true_eq_false,if_false,hd,h];simp [List.append_assoc,←hz,Nat.add_assoc]
inductive Lt where|lang|fmt|mime|kind|desc|text|data
 deriving DecidableEq
structure Pt where
 l:Lt
 raw:Bool
 text:List UInt8
 set:Nat
def ZaO (enc:Nat):Nat:=if enc=1∨enc=2 then 2 else 1
def Zbw (wd:List UInt8→Except (Nat×Nat) (List UInt8×Nat))(l:Lt)(b:List UInt8×InS)(k:Nat):Pt×InS:=
 match wd b.1 with
 | .ok t=>(⟨l,false,t.1,t.2⟩,b.2)
 | .error e=>(⟨l,false,[],0⟩,b.2.fail e.1 (k+e.2))
def ZaH (enc:Nat)(wd:List UInt8→Except (Nat×Nat) (List UInt8×Nat))(s:InS):Lt→Pt×InS
 | .lang=>let t:=s.take 3;(⟨.lang,true,t.1,0⟩,t.2)
 | .fmt=>let t:=s.take 3;(⟨.fmt,true,t.1,0⟩,t.2)
 | .kind=>let t:=s.take 1;(⟨.kind,true,t.1,0⟩,t.2)
 | .mime=>let t:=s.until 1;(⟨.mime,true,t.1,0⟩,t.2)
 | .desc=>Zbw wd .desc (s.until (ZaO enc)) s.at_
 | .text=>Zbw wd .text s.rest s.at_
 | .data=>let t:=s.rest;(⟨.data,true,t.1,0⟩,t.2)
def Zbe (enc:Nat)(wd:List UInt8→Except (Nat×Nat) (List UInt8×Nat)):List Lt→InS→Except (Nat×Nat) (List Pt×InS)
 |[],s=> .ok ([],s)
 |l::r,s=>
  let p:=ZaH enc wd s l
  if p.2.e≠0 then .error (p.2.e,p.2.a) else
  match Zbe enc wd r p.2 with
  | .error e=> .error e
  | .ok q=> .ok (p.1::q.1,q.2)
def Zbp (enc:Nat)(en:List UInt8→List UInt8)(p:Pt):List UInt8:=
 match p.l with
 | .mime=>p.text++[0]
 | .desc=>en p.text++List.replicate (ZaO enc) 0
 | .text=>en p.text
 |_=>p.text
def PtOk (enc:Nat)(en:List UInt8→List UInt8)(wd:List UInt8→Except (Nat×Nat) (List UInt8×Nat))(p:Pt):Prop:=
 match p.l with
 | .lang| .fmt=>p.raw=true∧p.set=0∧p.text.length=3
 | .kind=>p.raw=true∧p.set=0∧p.text.length=1
 | .mime=>p.raw=true∧p.set=0∧p.text.all (· !=0)=true
 | .desc=>p.raw=false∧wd (en p.text)= .ok (p.text,p.set)∧
  (if ZaO enc=1 then(en p.text).all (· !=0)=true else Ze2 (en p.text)=true)
 | .text=>p.raw=false∧wd (en p.text)= .ok (p.text,p.set)
 | .data=>p.raw=true∧p.set=0
def ZeU:List Lt→Bool
 |[]=>true
 |[_]=>true
 |l::r=> !(l== .text)&& !(l== .data)&&ZeU r
theorem ZrW (enc:Nat)(s r:List UInt8)(h:if ZaO enc=1 then s.all (· !=0)=true else Ze2 s=true):
 ZeJ (ZaO enc) (s++(List.replicate (ZaO enc) 0++r))=some (s,r):=by
 by_cases e:enc=1∨enc=2
 · have hw:ZaO enc=2:=by simp [ZaO,e]
   rw [hw] at h⊢;simpa [ZeJ,List.replicate] using ZlC s r (by simpa using h)
 · have hw:ZaO enc=1:=by simp [ZaO,e]
   rw [hw] at h⊢;simpa [ZeJ,List.replicate] using Zii s r (by simpa using h)
theorem Zut (enc:Nat)(en:List UInt8→List UInt8)(wd:List UInt8→Except (Nat×Nat) (List UInt8×Nat))(q:Pt)(ok:PtOk enc en wd q)
 (b:Nat) (p r:List UInt8) (hr:q.l= .text∨q.l= .data→r=[]):
 ZaH enc wd (InS.mk' b p (Zbp enc en q++r)) q.l=(q,InS.mk' b (p++Zbp enc en q) r):=by
 obtain⟨l,raw,text,set⟩:=q;cases l
 · obtain⟨h1,h2,h3⟩:=ok;simp only at h1 h2 h3;subst h1 h2;simp only [ZaH,Zbp,InS.take_mk' _ _ text r 3 h3]
 · obtain⟨h1,h2,h3⟩:=ok;simp only at h1 h2 h3;subst h1 h2;simp only [ZaH,Zbp,InS.take_mk' _ _ text r 3 h3]
 · obtain⟨h1,h2,h3⟩:=ok;simp only at h1 h2 h3;subst h1 h2;have hu:=InS.until_mk b p text [0] r 1 rfl (by simpa [ZeJ] using Zii text r h3);simp only [ZaH,Zbp,List.append_assoc,hu]
 · obtain⟨h1,h2,h3⟩:=ok;simp only at h1 h2 h3;subst h1 h2;simp only [ZaH,Zbp,InS.take_mk' _ _ text r 1 h3]
 · obtain⟨h1,h2,h3⟩:=ok;simp only at h1 h2 h3;subst h1;have hu:=InS.until_mk b p (en text) (List.replicate (ZaO enc) 0) r (ZaO enc) (by simp) (ZrW enc (en text) r h3);simp only [ZaH,Zbp,List.append_assoc,hu,Zbw,h2]
 · obtain⟨h1,h2⟩:=ok;simp only at h1 h2;subst h1;have:=hr (.inl rfl);subst this;simp only [ZaH,Zbp,List.append_nil,InS.rest_mk,Zbw,h2]
 · obtain⟨h1,h2⟩:=ok;simp only at h1 h2;subst h1 h2;have:=hr (.inr rfl);subst this;simp only [ZaH,Zbp,List.append_nil,InS.rest_mk]
theorem Znz (enc:Nat)(en:List UInt8→List UInt8)(wd:List UInt8→Except (Nat×Nat) (List UInt8×Nat)):
 ∀(ps:List Pt),(∀q∈ps,PtOk enc en wd q)→ZeU (ps.map (·.l))=true→∀(b:Nat) (p:List UInt8),
 Zbe enc wd (ps.map (·.l)) (InS.mk' b p (ps.map (Zbp enc en)).flatten)= .ok (ps,InS.mk' b (p++(ps.map (Zbp enc en)).flatten) [])
 |[],_,_,b,p=>by simp [Zbe]
 |q::ps,hk,hl,b,p=>by
  have ez:∀b x y,(InS.mk' b x y).e=0:=fun _ _ _=>rfl;have hr:q.l= .text∨q.l= .data→(ps.map (Zbp enc en)).flatten=[]:=by
   intro h;cases ps with
   |nil=>rfl
   |cons q2 ps=>
    simp only [List.map_cons,ZeU,Bool.and_eq_true] at hl;rcases h with h|h<;>rw [h] at hl<;>simp at hl
  have hl2:ZeU (ps.map (·.l))=true:=by
   cases ps with
   |nil=>rfl
   |cons q2 ps=>
    simp only [List.map_cons,ZeU,Bool.and_eq_true] at hl;exact hl.2
  have ih:=Znz enc en wd ps (fun x hx=>hk x (by simp [hx])) hl2 b (p++Zbp enc en q);simp only [List.map_cons,List.flatten_cons,Zbe,Zut enc en wd q (hk q (by simp)) b p _ hr,ez,ne_eq,not_true_eq_false,if_false,ih,List.append_assoc]
def Zf (v:Nat)(id:List UInt8):List Lt:=
 if v=2 then
  if id=[84,88,88] then [.desc,.text]
  else if id=[67,79,77]∨id=[85,76,84] then [.lang,.desc,.text]
  else if id=[87,88,88] then [.desc,.data]
  else if id=[80,73,67] then [.fmt,.kind,.desc,.data]
  else if id.length=3∧id.head? =some 84 then [.text] else []
 else if v=3∨v=4 then
  if id=[84,88,88,88] then [.desc,.text]
  else if id=[67,79,77,77]∨id=[85,83,76,84] then [.lang,.desc,.text]
  else if id=[87,88,88,88] then [.desc,.data]
  else if id=[65,80,73,67] then [.mime,.kind,.desc,.data]
  else if id.length=4∧id.head? =some 84 then [.text] else []
 else []
theorem Zty (v:Nat)(id:List UInt8):ZeU (Zf v id)=true:=by
 unfold Zf
 (repeat' split)<;>rfl
def Zdx (v enc:Nat):Bool:=decide (enc≤1)||(v==4&&decide (enc≤3))
def Zcp (wd:Nat→List UInt8→Except (Nat×Nat) (List UInt8×Nat))(v:Nat)(id body:List UInt8):Except (Nat×Nat) (List Pt):=
 if Zf v id=[] then .ok [⟨.data,true,body,0⟩] else
 let e:=(⟨body,0,0,0,0⟩:InS).big 1
 if e.2.e≠0 then .error (e.2.e,e.2.a) else
 if Zdx v e.1=false then .error (1,0) else
 match Zbe e.1 (wd e.1) (Zf v id) e.2 with
 | .error x=> .error x
 | .ok q=> .ok q.1
def ZC (v:Nat):Nat:=if v=4 then 3 else 1
def Zit (en:Nat→List UInt8→List UInt8)(v:Nat)(id:List UInt8)(ps:List Pt):List UInt8:=
 if Zf v id=[] then(match ps with|[]=>[]|p::_=>p.text) else UInt8.ofNat (ZC v)::(ps.map (Zbp (ZC v) (en (ZC v)))).flatten
theorem ZsB (en:Nat→List UInt8→List UInt8)(wd:Nat→List UInt8→Except (Nat×Nat) (List UInt8×Nat))(v:Nat)(id:List UInt8)(ps:List Pt)
 (hl:ps.map (·.l)=Zf v id) (h0:Zf v id≠[]) (hk:∀q∈ps,PtOk (ZC v) (en (ZC v)) (wd (ZC v)) q):
 Zcp wd v id (Zit en v id ps)= .ok ps:=by
 have ez:∀b x y,(InS.mk' b x y).e=0:=fun _ _ _=>rfl;have he:(UInt8.ofNat (ZC v)).toNat=ZC v:=by unfold ZC;split<;>rfl
 have hm:Zdx v (ZC v)=true:=by
  unfold Zdx ZC;by_cases h:v=4<;>simp [h]
 have st:∀l,(⟨l,0,0,0,0⟩:InS)=InS.mk' 0 [] l:=fun _=>rfl;have hp:=Znz (ZC v) (en (ZC v)) (wd (ZC v)) ps hk (by rw [hl];exact Zty v id) 0 ([]++[UInt8.ofNat (ZC v)]);rw [hl] at hp;simp only [Zcp,Zit,if_neg h0,st,Zgu,ez,ne_eq,not_true_eq_false,if_false,he,hm,Bool.true_eq_false,hp]
end Go.Proofs.YtlhllehffkoloaaGreatDoor
