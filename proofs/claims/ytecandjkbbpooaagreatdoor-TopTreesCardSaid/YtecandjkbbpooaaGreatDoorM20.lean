/- Lemmas for a statement on the tops; conditions: as each says. -/
import Derived.Test.YtecandjkbbpooaaGreatDoorM19
set_option linter.unusedVariables false
set_option linter.unusedSimpArgs false
set_option maxRecDepth 100000
set_option maxHeartbeats 4000000
namespace Go.Proofs.YtecandjkbbpooaaGreatDoor
open Go Go.RowKit
def Zag (v:Nat)(fl:UInt8)(f:Fr):Bool:= !okF v f||(v==4&&(ZG fl&&f.fm&&&2==0))
def ZbA (v:Nat)(rev fl:UInt8):Bool:=decide (Zx v=0)||(rev==255||fl&&& ~~~(ZdL v) !=0)
def Z5 (v:Nat)(rev fl:UInt8)(fs:List Fr):Nat×Nat:=
 if ZbA v rev fl then(5,0) else match fs.findIdx? (Zag v fl) with
  |some i=>(5,i)
  |none=>if 4096<fs.length then(4,4096) else(0,0)
theorem ZpB (v:Nat):Zbn v&&& ~~~64=ZdL v:=by
 unfold Zbn ZdL;split
 · decide
 · split
   · decide
   · split<;>decide
theorem Zi.at6 {w:World} {bk:Nat} {l:List Fr} (h:∀j u,(l.flatMap frV)[j]? =some u→w.cell? ⟨bk,j,none⟩=some u){k:Nat} {f:Fr} (hx:l[k]? =some f):
 w.cell? ⟨bk,k*6,none⟩=some (.string (B f.id))∧w.cell? ⟨bk,k*6+1,none⟩=some (.int .u8 f.st.toNat)∧w.cell? ⟨bk,k*6+2,none⟩=some (.int .u8 f.fm.toNat)∧w.cell? ⟨bk,k*6+3,none⟩=some (.int .u8 f.grp.toNat)∧w.cell? ⟨bk,k*6+4,none⟩=some (.string (B f.body))∧w.cell? ⟨bk,k*6+5,none⟩=some (.int .i64 f.at_):=by
 have q:∀j,j<6→(l.flatMap frV)[k*6+j]? =(frV f)[j]?:=fun j hj=>Zet 6 frV ZqQ l k j f hx hj;exact⟨h _ _ (q 0 (by decide)),h _ _ (q 1 (by decide)),h _ _ (q 2 (by decide)),h _ _ (q 3 (by decide)),h _ _ (q 4 (by decide)),h _ _ (q 5 (by decide))⟩
def ZfF (w:World)(r:Nat×Nat)(e:Ending)(w':World):Prop:=e= .returned (.agg #[.int .i64 r.1,.int .i64 r.2])∧Below w.heap.size w w'
structure CSt (w0 wx:World)(v:Int)(rev fl:UInt8)(sl:Value):Prop where
 tg:Bx wx w0.heap.size #[.int .i64 v,.int .u8 rev.toNat,.int .u8 fl.toNat,sl] 84
 res:Bx wx (w0.heap.size+1) #[.int .i64 0,.int .i64 0] 62
 low:Below w0.heap.size w0 wx
section
variable {w0 w w':World} {v:Int} {rev fl:UInt8} {sl:Value}
theorem CSt.below (h:CSt w0 w v rev fl sl)(hb:Below w.heap.size w w'):CSt w0 w' v rev fl sl:=⟨h.tg.below hb,h.res.below hb,h.low.trans (hb.mono h.low.size)⟩
theorem CSt.alloc (h:CSt w0 w v rev fl sl)(o:Obj):CSt w0 (w.alloc o) v rev fl sl:=h.below ((Below.refl _ _).alloc (Nat.le_refl _) _)
theorem CSt.cells (h:CSt w0 w v rev fl sl):(w.cell? ⟨w0.heap.size,0,none⟩=some (.int .i64 v)∧w.cell? ⟨w0.heap.size,1,none⟩=some (.int .u8 rev.toNat)∧w.cell? ⟨w0.heap.size,2,none⟩=some (.int .u8 fl.toNat)∧w.cell? ⟨w0.heap.size,3,none⟩=some sl)∧
 (w.cell? ⟨w0.heap.size+1,0,none⟩=some (.int .i64 0)∧w.cell? ⟨w0.heap.size+1,1,none⟩=some (.int .i64 0))∧(∀j,w.frozen? ⟨w0.heap.size+1,j,none⟩=false)∧w0.heap.size<w.heap.size∧w0.heap.size+2≤w.heap.size:=
 ⟨⟨h.tg.cell 0,h.tg.cell 1,h.tg.cell 2,h.tg.cell 3⟩,⟨h.res.cell 0,h.res.cell 1⟩,h.res.free,h.tg.lt,h.res.lt⟩
theorem CSt.fin (h:CSt w0 w v rev fl sl)(x y:Value):Bx ((w.setCell ⟨w0.heap.size+1,0,none⟩ x).setCell ⟨w0.heap.size+1,1,none⟩ y) (w0.heap.size+1) #[x,y] 62∧Below w0.heap.size w0 ((w.setCell ⟨w0.heap.size+1,0,none⟩ x).setCell ⟨w0.heap.size+1,1,none⟩ y):=
 ⟨Za9 h.res x y,(h.low.setCell (p:=⟨w0.heap.size+1,0,none⟩) (Nat.le_succ _) x).setCell (p:=⟨w0.heap.size+1,1,none⟩) (Nat.le_succ _) y⟩
end
theorem ck_at {v:Nat} {rev fl:UInt8} {fs:List Fr} {k:Nat} (hw:ZbA v rev fl=false)(hk:k<fs.length)(hb:Zag v fl fs[k]=true)(hbf:∀j (h:j<fs.length),j<k→Zag v fl fs[j]=false):Z5 v rev fl fs=(5,k):=by
 unfold Z5;rw [if_neg (by rw [hw];decide)];have:fs.findIdx? (Zag v fl)=some k:=List.findIdx?_eq_some_iff_getElem.2 ⟨hk,hb,fun j hj=>by rw [hbf j (by omega) hj];decide⟩;rw [this]
theorem ck_end {v:Nat} {rev fl:UInt8} {fs:List Fr} (hw:ZbA v rev fl=false)(hbf:∀j (h:j<fs.length),j<fs.length→Zag v fl fs[j]=false):Z5 v rev fl fs=if 4096<fs.length then(4,4096) else(0,0):=by
 unfold Z5;rw [if_neg (by rw [hw];decide)];have:fs.findIdx? (Zag v fl)=none:=List.findIdx?_eq_none_iff.2 fun x hx=>by
  obtain⟨j,hj,rfl⟩:=List.getElem_of_mem hx;exact hbf j hj hj
 rw [this]
def CkRel (vn:Nat)(fl:UInt8)(w0:World)(v:Int)(rev:UInt8)(sl:Value)(fs:List Fr)(i:Value)(wx:World):Prop:=∃k:Nat,k≤fs.length∧i= .int .i64 k∧CSt w0 wx v rev fl sl∧∀j (h:j<fs.length),j<k→Zag vn fl fs[j]=false
theorem ZjD (v:Int)(rev fl:UInt8)(A:Option Addr)(c:Nat)(fs:List Fr)(B0:Nat)(w:World)(hr:Zi frV B0 w (.slice A fs.length c) fs)(hn:fs.length≤100000)(hid:∀f∈fs,f.id.length≤1000000000):
 Calls Tryz.prog 72 #[.agg #[.int .i64 v,.int .u8 rev.toNat,.int .u8 fl.toNat,.slice A fs.length c]] w (ZfF w (Z5 v.toNat rev fl fs)):=by
 generalize hP:ZfF w (Z5 v.toNat rev fl fs)=P at*;have hal:=fun w=>ZiZ v w;have hLt:=fun w=>ZeU v w;have han:=ZfU (Zbn v.toNat) 64 64 rfl;rw [ZpB] at han;obtain⟨bits8,hb8⟩:∃x,x=ZdL v.toNat:=⟨_,rfl⟩
 rw [←hb8] at han;obtain⟨x8,hx8⟩:∃x,x=fl&&& ~~~bits8:=⟨_,rfl⟩
 have han2:=ZfU fl bits8.toNat bits8 rfl;rw [←hx8] at han2;have Hwt:Hid (ZbA v.toNat rev fl=(decide (Zx v.toNat=0)||(rev==255||x8 !=0))):=Lib.hid (by rw [hx8,hb8];rfl);have ST0:Hid (CSt w ((w.alloc (.cells #[.int .i64 v,.int .u8 rev.toNat,.int .u8 fl.toNat,.slice A fs.length c] 84)).alloc (.cells #[.int .i64 0,.int .i64 0] 62)) v rev fl (.slice A fs.length c)):=Lib.hid ⟨(Bx.new w _ _).alloc _,by have:=Bx.new (w.alloc (.cells #[.int .i64 v,.int .u8 rev.toNat,.int .u8 fl.toNat,.slice A fs.length c] 84)) #[.int .i64 0,.int .i64 0] 62;rw [World.size_alloc] at this;exact this,((Below.refl _ _).alloc (Nat.le_refl _) _).alloc (by simp) _⟩;have HR:=Lib.hid hr;clear hb8 hx8 hr;generalize Zbn v.toNat=al8 at*;obtain⟨⟨c0,c1,c2,c3⟩,⟨r0,r1⟩,rf,l1,l2⟩:=ST0.out.cells;go_enter Tryz.func72,Tryz.ntmps72
 go_upto_region 2 with(go_at_call 146;refine(hal _).mono ?_;rintro e w1 ⟨rfl,rfl⟩)
 generalize hWW:(w.alloc (.cells #[.int .i64 v,.int .u8 rev.toNat,.int .u8 fl.toNat,.slice A fs.length c] 84)).alloc (.cells #[.int .i64 0,.int .i64 0] 62)=ww at*;clear hWW;go_cut [30] (fun s30 wx=>s30= .bool (ZbA v.toNat rev fl)∧wx=ww)
 case first=>
  have hw:=Hwt.out;by_cases h0:Zx v.toNat=0
  · have hv:((Zx v.toNat:Int)==0)=true:=by rw [h0];rfl
    have Hw:Hid (ZbA v.toNat rev fl=true):=Lib.hid (by rw [hw,h0];rfl);clear hw h0;go_wp2_with (go_at_call 147;refine(hLt _).mono ?_;rintro e w1 ⟨rfl,rfl⟩)
    go_meet
    exact⟨by rw [Hw.out],rfl⟩
  · have hv:((Zx v.toNat:Int)==0)=false:=by rw [beq_eq_false_iff_ne];omega
    rw [show decide (Zx v.toNat=0)=false by simpa using h0,Bool.false_or] at hw;by_cases h5:rev=255
    · have hv5:((rev.toNat:Int)==255)=true:=by rw [h5];rfl
      have Hw:Hid (ZbA v.toNat rev fl=true):=Lib.hid (by rw [hw,h5];rfl);clear hw h0 h5;go_wp2_with (go_at_call 147;refine(hLt _).mono ?_;rintro e w1 ⟨rfl,rfl⟩)
      go_meet
      exact⟨by rw [Hw.out],rfl⟩
    · have hv5:((rev.toNat:Int)==255)=false:=by rw [beq_eq_false_iff_ne];exact fun e=>h5 (UInt8.toNat_inj.1 (by show rev.toNat=255;omega))
      rw [show(rev==255)=false by simpa using h5,Bool.false_or] at hw;have hx:=Zdk x8;rw [←hw] at hx;generalize ZbA v.toNat rev fl=wt at*;clear hw h0 h5;cases wt with
      |true=>
       go_wp2_with (go_at_call 147;refine(hLt _).mono ?_;rintro e w1 ⟨rfl,rfl⟩)
       go_meet
       exact⟨rfl,rfl⟩
      |false=>
       go_wp2_with (go_at_call 147;refine(hLt _).mono ?_;rintro e w1 ⟨rfl,rfl⟩)
       go_meet
       exact⟨rfl,rfl⟩
 obtain⟨rfl,rfl⟩:=hcut;cases hW:ZbA v.toNat rev fl with
 |true=>
  go_wp2_with fail
  have F:=ST0.out.fin (.int .i64 5) (.int .i64 0);refine bodyPost_ret (results_cell_row rfl _ _ (w.heap.size+1) _ _ _ _ rfl F.1 Tryz.underlying62 rfl (by kernel_rfl)) rfl ?_;rw [←hP];refine⟨?_,F.2⟩;unfold Z5;rw [if_pos hW];rfl
 |false=>
  have HW:=Lib.hid hW;clear hW;have hrow:∀(k:Nat) (f:Fr),fs[k]? =some f→∃bk,A=some ⟨bk,0,none⟩∧bk<w.heap.size∧∀j u,(fs.flatMap frV)[j]? =some u→w.cell? ⟨bk,j,none⟩=some u:=by
   intro k f hk;rcases HR.out with⟨h0,_⟩|⟨bk,c',h0,h1,h2,h5,h3,h4⟩
   · rw [h0] at hk;simp at hk
   · simp only [Value.slice.injEq] at h1;exact⟨bk,h1.1,h3,h4⟩
  have Hrow:=Lib.hid hrow;clear hrow;go_wp2_with fail
  go_loopw [35] (fun i wx=>CkRel v.toNat fl w v rev (.slice A fs.length c) fs i wx) (fun i _=>fs.length - (intOf i).toNat)
  case atStart=>exact⟨0,Nat.zero_le _,rfl,ST0.out,fun j _ h=>by omega⟩
  case round=>
   obtain⟨k,hk,rfl,hst,hbf⟩:=hrel;have ST:=Lib.hid hst;have Hbf:=Lib.hid hbf;clear hst hbf c0 c1 c2 c3 r0 r1 rf l1 l2;obtain⟨⟨c0,c1,c2,c3⟩,⟨r0,r1⟩,rf,l1,l2⟩:=ST.out.cells;by_cases hlt:k<fs.length
   · obtain⟨f,hf⟩:∃f,fs[k]? =some f:=⟨_,List.getElem?_eq_getElem hlt⟩
     obtain⟨bk,hA,hbk,hcl⟩:=Hrow.out k f hf;have Hcl:=Lib.hid (Zi.at6 (w:=wr) (fun j u hu=>(ST.out.low.cell (p:=⟨bk,j,none⟩) hbk).trans (hcl j u hu)) hf);have Hf:=Lib.hid hf;have hck:=fun w=>ZfI f v (hid f (List.mem_of_getElem? hf)) w;clear hcl hf;obtain⟨y0,y1,y2,y3,y4,y5⟩:=Hcl.out;subst hA;have hbk2:bk<wr.heap.size:=Nat.lt_of_lt_of_le hbk ST.out.low.size;cases hok:okF v.toNat f with
     |false=>
      rw [show ckF v.toNat f=5 by unfold ckF;rw [hok];rfl] at hck;have hbd:=fun w=>Zaq 5 0 (by decide) w;have Hbad:Hid (Zag v.toNat fl f=true):=Lib.hid (by unfold Zag;rw [hok];rfl);clear hok;go_wp2_with (first
       |(go_at_call 148;refine(hck _).mono ?_;rintro e w1 ⟨rfl,hb1⟩;have ST1:=Lib.hid ((ST.out.alloc _).below hb1);have FB:=Lib.hid ((Bx.new wr (six f) 34).below hb1);clear hb1)
       |(go_at_call 7;refine(hbd _).mono ?_;rintro e w2 ⟨rfl,hb2⟩;have ST2:=Lib.hid ((ST1.out.alloc _).below hb2);have GB:=Lib.hid ((Bx.new w1 _ _).below hb2);clear hb2 c0 c1 c2 c3 r0 r1 rf l1 l2;obtain⟨⟨c0,c1,c2,c3⟩,⟨r0,r1⟩,rf,l1,l2⟩:=ST2.out.cells;have x0:=GB.out.cell 0;have x1:=GB.out.cell 1;have xl:=GB.out.lt))
      have F:=ST2.out.fin (.int .i64 5) (.int .i64 k);refine bodyPost_ret (results_cell_row rfl _ _ (w.heap.size+1) _ _ _ _ rfl F.1 Tryz.underlying62 rfl (by kernel_rfl)) rfl ?_;rw [←hP];refine⟨?_,F.2⟩;rw [ck_at HW.out hlt (by have h9:=Hf.out;rw [List.getElem?_eq_getElem hlt] at h9;injection h9 with h9;rw [h9];exact Hbad.out) Hbf.out];rfl
     |true=>
      rw [show ckF v.toNat f=0 by unfold ckF;rw [hok];rfl] at hck;have hbd:=fun w=>ZT 0 0 rfl w;have hsp:=fun w=>Zhc v rev fl w;have Hbd:Hid (Zag v.toNat fl f=(v.toNat==4&&(ZG fl&&f.fm&&&2==0))):=Lib.hid (by unfold Zag;rw [hok];rfl);clear hok;generalize ZG fl=sp at*;go_upto_region 10 with(first
       |(go_at_call 148;refine(hck _).mono ?_;rintro e w1 ⟨rfl,hb1⟩;have ST1:=Lib.hid ((ST.out.alloc _).below hb1);have FB:=Lib.hid ((Bx.new wr (six f) 34).below hb1);clear hb1)
       |(go_at_call 7;refine(hbd _).mono ?_;rintro e w2 ⟨rfl,hb2⟩;have ST2:=Lib.hid ((ST1.out.alloc _).below hb2);have GB:Hid (Zp w2 wr.heap.size f):=Lib.hid (Bx.below (FB.out.alloc _) hb2);clear hb2 c0 c1 c2 c3 r0 r1 rf l1 l2;obtain⟨⟨c0,c1,c2,c3⟩,⟨r0,r1⟩,rf,l1,l2⟩:=ST2.out.cells;obtain⟨x0,x1,x2,x3,x4,x5⟩:=GB.out.get;have xl:=GB.out.lt))
      go_cut [66] (fun s66 wx=>s66= .bool (Zag v.toNat fl f)∧CSt w wx v rev fl (.slice (some ⟨bk,0,none⟩) fs.length c))
      case first=>
       have hb:=Hbd.out;have han3:=Zcd f.fm 2 2 rfl;by_cases h4:v=4
       · subst h4;rw [show((4:Int).toNat==4)=true from rfl,Bool.true_and] at hb;cases sp with
         |true=>
          rw [Bool.true_and] at hb;by_cases h2:f.fm&&&2=0
          · have hq:(((f.fm.toNat&&&2:Nat):Int)==0)=true:=by
             have:=congrArg UInt8.toNat h2;rw [UInt8.toNat_and] at this;rw [beq_iff_eq];exact_mod_cast this
            have Hb:Hid (Zag (4:Int).toNat fl f=true):=Lib.hid (by rw [hb];simpa using h2);clear hb h2;go_wp2_with (go_at_call 149;refine(hsp _).mono ?_;rintro e w3 ⟨rfl,hb3⟩;have ST3:=Lib.hid (ST2.out.below hb3);have GB3:=Lib.hid (Zp.below GB.out hb3);clear hb3 x0 x1 x2 x3 x4 x5;obtain⟨x0,x1,x2,x3,x4,x5⟩:=GB3.out.get)
            go_meet
            exact⟨by rw [Hb.out],ST3.out⟩
          · have hq:(((f.fm.toNat&&&2:Nat):Int)==0)=false:=by
             rw [beq_eq_false_iff_ne];intro e;apply h2
             apply UInt8.toNat_inj.1
             rw [UInt8.toNat_and];exact_mod_cast e
            have Hb:Hid (Zag (4:Int).toNat fl f=false):=Lib.hid (by rw [hb];simpa using h2);clear hb h2;go_wp2_with (go_at_call 149;refine(hsp _).mono ?_;rintro e w3 ⟨rfl,hb3⟩;have ST3:=Lib.hid (ST2.out.below hb3);have GB3:=Lib.hid (Zp.below GB.out hb3);clear hb3 x0 x1 x2 x3 x4 x5;obtain⟨x0,x1,x2,x3,x4,x5⟩:=GB3.out.get)
            go_meet
            exact⟨by rw [Hb.out],ST3.out⟩
         |false=>
          rw [Bool.false_and] at hb;have Hb:=Lib.hid hb;clear hb;go_wp2_with (go_at_call 149;refine(hsp _).mono ?_;rintro e w3 ⟨rfl,hb3⟩;have ST3:=Lib.hid (ST2.out.below hb3);clear hb3)
          go_meet
          exact⟨by rw [Hb.out],ST3.out⟩
       · have hv4:(v==4)=false:=by simpa using h4
         rw [show(v.toNat==4)=false by rw [beq_eq_false_iff_ne];omega,Bool.false_and] at hb;have Hb:=Lib.hid hb;clear hb h4;go_wp2_with fail
         go_meet
         exact⟨by rw [Hb.out],ST2.out⟩
      obtain⟨rfl,hcut⟩:=hcut;have ST4:=Lib.hid hcut;clear hcut c0 c1 c2 c3 r0 r1 rf l1 l2;obtain⟨⟨c0,c1,c2,c3⟩,⟨r0,r1⟩,rf,l1,l2⟩:=ST4.out.cells;have hfk:fs[k]=f:=by have h9:=Hf.out;rw [List.getElem?_eq_getElem hlt] at h9;injection h9
      have Hfk:=Lib.hid hfk;clear hfk;cases hbb:Zag v.toNat fl f with
      |true=>
       have Hbb:=Lib.hid hbb;clear hbb;go_wp2_with fail
       have F:=ST4.out.fin (.int .i64 5) (.int .i64 k);refine bodyPost_ret (results_cell_row rfl _ _ (w.heap.size+1) _ _ _ _ rfl F.1 Tryz.underlying62 rfl (by kernel_rfl)) rfl ?_;rw [←hP];refine⟨?_,F.2⟩;rw [ck_at HW.out hlt (by rw [Hfk.out];exact Hbb.out) Hbf.out];rfl
      |false=>
       have Hbb:=Lib.hid hbb;clear hbb;go_wp2_with fail
       go_roundw
       case rel=>
        refine⟨k+1,by omega,by go_num,ST4.out,fun j hj hjk=> ?_⟩;by_cases e:j=k
        · subst e;rw [Hfk.out];exact Hbb.out
        · exact Hbf.out j hj (by omega)
       case measure=>simp [intOf];omega
   · have hk2:k=fs.length:=by omega
     subst hk2;have hce:=ck_end HW.out Hbf.out;by_cases hg:4096<fs.length
     · have hg2:(fs.length:Int)>4096:=by omega
       rw [if_pos hg] at hce;have Hce:=Lib.hid hce;clear hce hg;go_wp2_with fail
       have F:=ST.out.fin (.int .i64 4) (.int .i64 4096);refine bodyPost_ret (results_cell_row rfl _ _ (w.heap.size+1) _ _ _ _ rfl F.1 Tryz.underlying62 rfl (by kernel_rfl)) rfl ?_;rw [←hP];exact⟨by rw [Hce.out];rfl,F.2⟩
     · have hg2:¬(fs.length:Int)>4096:=by omega
       rw [if_neg hg] at hce;have Hce:=Lib.hid hce;clear hce hg;go_wp2_with fail
       have F:=ST.out.fin (.int .i64 0) (.int .i64 0);refine bodyPost_ret (results_cell_row rfl _ _ (w.heap.size+1) _ _ _ _ rfl F.1 Tryz.underlying62 rfl (by kernel_rfl)) rfl ?_;rw [←hP];exact⟨by rw [Hce.out];rfl,F.2⟩
theorem ZoY (a:Option Addr)(n c:Nat)(hn:n=0)(w:World):
 Calls Tryz.prog 27 #[.slice a n c] w fun e w'=>e= .returned (.string ⟨#[]⟩)∧w=w':=by
 subst hn;have hj:=Tryz.strings_Join_none a c ⟨#[]⟩;go_enter Tryz.func27,Tryz.ntmps27
 go_wp2_with (go_at_call 76;refine(hj _).mono ?_;rintro e w1 ⟨rfl,rfl⟩)
 go_ret
 exact⟨rfl,rfl⟩
theorem Zjk {base:Nat} {v:Value} {l:List (List UInt8)} {w:World} (h:w.ownsRow base 9 1 v l.length (l.map sV))(hf:l.flatten.length≤35184372089000)(hn:l.length≤35184372089000):
 Calls Tryz.prog 27 #[v] w fun e w'=>e= .returned (.string (B l.flatten))∧Below w.heap.size w w':=by
 by_cases hl:l=[]
 · subst hl;obtain⟨_,A,c,rfl,_⟩:=ZaL h;refine(ZoY A _ c rfl w).mono ?_;rintro e w' ⟨rfl,rfl⟩;exact⟨rfl,Below.refl _ _⟩
 · exact Zed h hl hf hn
def Zac (v:Nat)(fs:List Fr)(k:Nat):List (List UInt8):=(fs.take k).map (Zt v)
theorem ZsF (v:Nat)(fs:List Fr)(k:Nat)(f:Fr)(h:fs[k]? =some f):Zac v fs (k+1)=Zac v fs k++[Zt v f]:=by
 unfold Zac;rw [List.take_add_one,h];simp
theorem Zme (v:Nat)(fs:List Fr)(k:Nat):(Zac v fs k).flatten.length≤((fs.map (Zt v)).flatten).length:=by
 have:fs.map (Zt v)=Zac v fs k++(fs.drop k).map (Zt v):=by
  unfold Zac;rw [←List.map_append,List.take_append_drop]
 rw [this,List.flatten_append,List.length_append];omega
theorem fr_le (v:Nat)(f:Fr):f.id.length≤(Zt v f).length∧f.body.length≤(Zt v f).length∧(Zg v f).length≤(Zt v f).length:=by
 have:=Zj8 v f;have h:Zt v f=f.id++(ZL v (Zg v f).length++(Zab v f++Zg v f)):=rfl;rw [h];simp only [List.length_append];omega
structure ESt (w0 wx:World)(v:Int)(rev fl:UInt8)(sl vl:Value)(l:List (List UInt8)):Prop where
 st:CSt w0 wx v rev fl sl
 own:OwS w0 wx vl l
theorem ESt.below {w0 w w':World} {v:Int} {rev fl:UInt8} {sl vl:Value} {l:List (List UInt8)} (h:ESt w0 w v rev fl sl vl l)(hb:Below w.heap.size w w'):ESt w0 w' v rev fl sl vl l:=⟨h.st.below hb,h.own.below hb⟩
theorem CSt.low2 {w0 w w':World} {v:Int} {rev fl:UInt8} {sl:Value} (h:CSt w0 w v rev fl sl)(hb:Below (w0.heap.size+2) w w'):CSt w0 w' v rev fl sl:=
 ⟨(hb.block _ (by omega)).trans h.tg,(hb.block _ (by omega)).trans h.res,h.low.trans (hb.mono (by omega))⟩
def BdRel (vn:Nat)(w0:World)(v:Int)(rev fl:UInt8)(sl:Value)(fs:List Fr)(vl m i:Value)(wx:World):Prop:=∃k:Nat,k≤fs.length∧i= .int .i64 k∧m= .int .i64 ((Zac vn fs k).flatten.length:Nat)∧ESt w0 wx v rev fl sl vl (Zac vn fs k)
def Zd7 (w:World)(s:List UInt8)(e:Ending)(w':World):Prop:=e= .returned (.tuple #[.string (B s),.agg #[.int .i64 0,.int .i64 0]])∧Below w.heap.size w w'
theorem ZoX (v:Int)(rev fl:UInt8)(A:Option Addr)(c:Nat)(fs:List Fr)(B0:Nat)(w:World)(hr:Zi frV B0 w (.slice A fs.length c) fs)(hn:fs.length≤100000)(hok:∀f∈fs,okF v.toNat f=true)
 (h2:v=2→∀f∈fs,(Zg 2 f).length≤16777215) (hsum:((fs.map (Zt v.toNat)).flatten).length≤130000000):
 Calls Tryz.prog 73 #[.agg #[.int .i64 v,.int .u8 rev.toNat,.int .u8 fl.toNat,.slice A fs.length c]] w (Zd7 w (ZU ⟨v.toNat,rev,fl,fs⟩)):=by
 generalize hP:Zd7 w (ZU ⟨v.toNat,rev,fl,fs⟩)=P at*;have HPb:Hid (ZU ⟨v.toNat,rev,fl,fs⟩=if ZcH v.toNat fl then ZR (Zac v.toNat fs fs.length).flatten else(Zac v.toNat fs fs.length).flatten):=Lib.hid (by unfold ZU Zcc Zac;rw [List.take_length]);have ST0:Hid (CSt w ((w.alloc (.cells #[.int .i64 v,.int .u8 rev.toNat,.int .u8 fl.toNat,.slice A fs.length c] 84)).alloc (.cells #[.int .i64 0,.int .i64 0] 62)) v rev fl (.slice A fs.length c)):=Lib.hid ⟨(Bx.new w _ _).alloc _,by have:=Bx.new (w.alloc (.cells #[.int .i64 v,.int .u8 rev.toNat,.int .u8 fl.toNat,.slice A fs.length c] 84)) #[.int .i64 0,.int .i64 0] 62;rw [World.size_alloc] at this;exact this,((Below.refl _ _).alloc (Nat.le_refl _) _).alloc (by simp) _⟩;obtain⟨⟨c0,c1,c2,c3⟩,⟨r0,r1⟩,rf,l1,l2⟩:=ST0.out.cells;have Hrow:Hid (∀(k:Nat) (f:Fr),fs[k]? =some f→∃bk,A=some ⟨bk,0,none⟩∧bk<w.heap.size∧∀j u,(fs.flatMap frV)[j]? =some u→w.cell? ⟨bk,j,none⟩=some u):=Lib.hid (by
  intro k f hk;rcases hr with⟨h0,_⟩|⟨bk,c',h0,h1,h2,h5,h3,h4⟩
  · rw [h0] at hk;simp at hk
  · simp only [Value.slice.injEq] at h1;exact⟨bk,h1.1,h3,h4⟩)
 have Hok:=Lib.hid hok;have H2:=Lib.hid h2;have Hsum:=Lib.hid hsum;clear hr hok h2 hsum;go_enter Tryz.func73,Tryz.ntmps73
 go_wp2_with fail
 go_loopw [4,5,15] (fun vl m i wx=>BdRel v.toNat w v rev fl (.slice A fs.length c) fs vl m i wx) (fun _ _ i _=>fs.length - (intOf i).toNat)
 case atStart=>exact⟨0,Nat.zero_le _,rfl,rfl,ST0.out,⟨rfl,.inl ⟨rfl,rfl⟩⟩⟩
 case round=>
  obtain⟨k,hk,rfl,rfl,hst⟩:=hrel;obtain⟨_,A4,c4,hv4,hc4⟩:=ZaL hst.own;subst hv4;have ST:=Lib.hid hst;have hml:=Zme v.toNat fs k;have hs0:=Hsum.out;have hbl:(Zac v.toNat fs k).flatten.length≤130000000:=by omega
  have hpn:(Zac v.toNat fs k).length≤100000:=by unfold Zac;simp;omega
  clear hst c0 c1 c2 c3 r0 r1 rf l1 l2 hml hs0;obtain⟨⟨c0,c1,c2,c3⟩,⟨r0,r1⟩,rf,l1,l2⟩:=ST.out.st.cells;by_cases hlt:k<fs.length
  · obtain⟨f,hf⟩:∃f,fs[k]? =some f:=⟨_,List.getElem?_eq_getElem hlt⟩
    obtain⟨bk,hA,hbk,hcl⟩:=Hrow.out k f hf;obtain⟨y0,y1,y2,y3,y4,y5⟩:=Zi.at6 (w:=wr) (fun j u hu=>(ST.out.st.low.cell (p:=⟨bk,j,none⟩) hbk).trans (hcl j u hu)) hf;have hmem:=List.mem_of_getElem? hf;have hps:=ZsF v.toNat fs k f hf;have hml2:=Zme v.toNat fs (k+1);have hs0:=Hsum.out;have hfle:=fr_le v.toNat f;have hlen1:(Zac v.toNat fs (k+1)).flatten.length=(Zac v.toNat fs k).flatten.length+(Zt v.toNat f).length:=by rw [hps];simp
    have hpr:∀w:World,Calls Tryz.prog 150 #[.agg #[.string (B f.id),.int .u8 f.st.toNat,.int .u8 f.fm.toNat,.int .u8 f.grp.toNat,.string (B f.body),.int .i64 f.at_],.int .i64 v] w fun e w'=>e= .returned (.tuple #[.string (B (Zt v.toNat f)),.agg #[.int .i64 0,.int .i64 0]])∧Below w.heap.size w w':=by
     intro w;refine(ZnF f v (by omega) (by omega) w).mono ?_;intro e w' h;have hfp:fpR v.toNat f= .ok (Zt v.toNat f):=by
      unfold fpR;rw [if_neg (by rw [Hok.out f hmem];decide),if_neg];rintro(h|⟨h,h'⟩)
      · omega
      · have:=H2.out (by omega) f hmem;rw [h] at h';omega
     unfold Zda at h;rw [hfp] at h;exact⟨h.2,h.1⟩
    have Hps:=Lib.hid hps;have Hlen1:=Lib.hid hlen1;have hl9:(Zac v.toNat fs k).flatten.length+(Zt v.toNat f).length≤130000000:=by omega
    have hszp:=Zl (Zt v.toNat f);have hbk2:bk<wr.heap.size:=Nat.lt_of_lt_of_le hbk ST.out.st.low.size;have hbd:=fun w=>ZT 0 0 rfl w;subst hA;clear hcl hf hmem hps hlen1 hml2 hs0 hfle;generalize (Zac v.toNat fs k).flatten.length=N at*;generalize Zt v.toNat f=pf at*;go_wp2_with (first
     |(go_at_call 150;refine(hpr _).mono ?_;rintro e w1 ⟨rfl,hb1⟩;have ST1:=Lib.hid ((ESt.below ST.out ((Below.refl _ _).alloc (Nat.le_refl _) _)).below hb1);clear hb1)
     |(go_at_call 7;refine(hbd _).mono ?_;rintro e w2 ⟨rfl,hb2⟩;have ST2:=Lib.hid ((ESt.below ST1.out ((Below.refl _ _).alloc (Nat.le_refl _) _)).below hb2);clear hb2;have hz2:=ST2.out.st.res.lt)
     |(at_builtin;refine Zbo rfl _ _ rfl (w.heap.size+2) (.slice A4 (Zac v.toNat fs k).length c4) (Zac v.toNat fs k) rfl w2 pf ST2.out.own (by omega) (by omega) rfl ?_;intro v6 w9 HO6 hb6 hg6;have SX:=Lib.hid (ST2.out.st.low2 hb6);clear hb6 hg6))
    go_roundw
    case rel=>exact⟨k+1,by omega,by go_num,by rw [Hlen1.out];go_num,SX.out,by rw [Hps.out];exact HO6.out⟩
    case measure=>simp [intOf];omega
  · have hk2:k=fs.length:=by omega
    subst hk2;have hwh:=fun w=>ZjF v rev fl w;obtain⟨b,hb⟩:∃b,b=(Zac v.toNat fs fs.length).flatten:=⟨_,rfl⟩
    have hpb:=HPb.out;rw [←hb] at hpb hbl;have HPb2:=Lib.hid hpb;have hszb:=Zl b;have hex:=fun w=>ZgW b (by omega) w;have hel:=Zdh b;have hpt:=fun w=>Zju b (by omega) w;have hjn:∀wx,OwS w wx (.slice A4 (Zac v.toNat fs fs.length).length c4) (Zac v.toNat fs fs.length)→Calls Tryz.prog 27 #[.slice A4 (Zac v.toNat fs fs.length).length c4] wx fun e w'=>e= .returned (.string (B b))∧Below wx.heap.size wx w':=by
     intro wx h;rw [hb];exact Zjk h (by rw [←hb];omega) (by omega)
    rw [←hb];clear hpb hb;generalize (Zac v.toNat fs fs.length).length=pl at*;generalize ZaE b=E at*;cases hW:ZcH v.toNat fl with
    |false=>
     rw [hW] at hwh;have HB:Hid (ZU ⟨v.toNat,rev,fl,fs⟩=b):=Lib.hid (by rw [HPb2.out,hW];rfl);clear hW;go_wp2_with (first
      |(go_at_call 27;refine(hjn _ (ESt.below ST.out ((Below.refl _ _).alloc (Nat.le_refl _) _)).own).mono ?_;rintro e w3 ⟨rfl,hb3⟩;have S3:=Lib.hid ((CSt.alloc ST.out.st _).below hb3);clear hb3 c0 c1 c2 c3 r0 r1 rf l1 l2;obtain⟨⟨c0,c1,c2,c3⟩,⟨r0,r1⟩,rf,l1,l2⟩:=S3.out.cells)
      |(go_at_call 101;refine(hwh _).mono ?_;rintro e w4 ⟨rfl,hb4⟩;have S4:=Lib.hid (S3.out.below hb4);clear hb4 c0 c1 c2 c3 r0 r1 rf l1 l2;obtain⟨⟨c0,c1,c2,c3⟩,⟨r0,r1⟩,rf,l1,l2⟩:=S4.out.cells))
     have F:=S4.out.fin (.int .i64 0) (.int .i64 0);refine bodyPost_ret (ZaT rfl _ _ (w.heap.size+1) _ _ _ _ _ rfl rfl F.1 Tryz.underlying62 rfl (by kernel_rfl)) rfl ?_;rw [←hP,HB.out];exact⟨rfl,F.2⟩
    |true=>
     rw [hW] at hwh;have HB:Hid (ZU ⟨v.toNat,rev,fl,fs⟩=ZR b):=Lib.hid (by rw [HPb2.out,hW];rfl);clear hW;go_wp2_with (first
      |(go_at_call 27;refine(hjn _ (ESt.below ST.out ((Below.refl _ _).alloc (Nat.le_refl _) _)).own).mono ?_;rintro e w3 ⟨rfl,hb3⟩;have S3:=Lib.hid ((CSt.alloc ST.out.st _).below hb3);clear hb3 c0 c1 c2 c3 r0 r1 rf l1 l2;obtain⟨⟨c0,c1,c2,c3⟩,⟨r0,r1⟩,rf,l1,l2⟩:=S3.out.cells)
      |(go_at_call 101;refine(hwh _).mono ?_;rintro e w4 ⟨rfl,hb4⟩;have S4:=Lib.hid (S3.out.below hb4);clear hb4 c0 c1 c2 c3 r0 r1 rf l1 l2)
      |(go_at_call 151;refine(hex _).mono ?_;rintro e w5 ⟨rfl,rfl⟩)
      |(go_at_call 152;refine(hpt _).mono ?_;rintro e w6 ⟨rfl,hb6⟩;have S5:=Lib.hid (S4.out.below hb6);clear hb6;obtain⟨⟨c0,c1,c2,c3⟩,⟨r0,r1⟩,rf,l1,l2⟩:=S5.out.cells))
     have F:=S5.out.fin (.int .i64 0) (.int .i64 0);refine bodyPost_ret (ZaT rfl _ _ (w.heap.size+1) _ _ _ _ _ rfl rfl F.1 Tryz.underlying62 rfl (by kernel_rfl)) rfl ?_;rw [←hP,HB.out];exact⟨rfl,F.2⟩
theorem Zj7 (v:Nat)(rev fl:UInt8)(fs:List Fr):(ZU ⟨v,rev,fl,fs⟩).length≤2*((fs.map (Zt v)).flatten).length:=by
 unfold ZU Zcc;have h1:=ZdX ((fs.map (Zt v)).flatten);have h2:=Zdh ((fs.map (Zt v)).flatten);simp only;split<;>omega
theorem ZiR {v:Int} {rev fl:UInt8} (h:ZbA v.toNat rev fl=false):v=2∨v=3∨v=4:=by
 unfold ZbA at h;simp only [Bool.or_eq_false_iff,decide_eq_false_iff_not] at h;have:=h.1;unfold Zx at this;split at this
 · omega
 · split at this<;>omega
theorem CSt.keep3 {w0 w:World} {v:Int} {rev fl:UInt8} {sl:Value} (h:CSt w0 w v rev fl sl):w.cell? ⟨w0.heap.size,0,none⟩=some (.int .i64 v)∧w.cell? ⟨w0.heap.size,1,none⟩=some (.int .u8 rev.toNat)∧w.cell? ⟨w0.heap.size,2,none⟩=some (.int .u8 fl.toNat):=⟨h.tg.cell 0,h.tg.cell 1,h.tg.cell 2⟩
theorem Zo4 (v:Int)(rev fl:UInt8)(A:Option Addr)(c:Nat)(fs:List Fr)(B0:Nat)(w:World)(hr:Zi frV B0 w (.slice A fs.length c) fs)(hn:fs.length≤100000)(hid:∀f∈fs,f.id.length≤1000000000)(hwr:ZbA v.toNat rev fl=false)(hck:Z5 v.toNat rev fl fs=(0,0))(hok:∀f∈fs,okF v.toNat f=true)
 (h2:v=2→∀f∈fs,(Zg 2 f).length≤16777215) (hsum:((fs.map (Zt v.toNat)).flatten).length≤130000000):
 Calls Tryz.prog 26 #[.agg #[.int .i64 v,.int .u8 rev.toNat,.int .u8 fl.toNat,.slice A fs.length c]] w (Zd7 w (ZaS ⟨v.toNat,rev,fl,fs⟩)):=by
 have hver:=ZiR hwr;have hbl:=Zj7 v.toNat rev fl fs;have hpt:ZaS ⟨v.toNat,rev,fl,fs⟩=ZB++(([UInt8.ofNat v.toNat,rev,fl]++ZO (ZU ⟨v.toNat,rev,fl,fs⟩).length)++(ZU ⟨v.toNat,rev,fl,fs⟩++(if ZbW v.toNat fl then ZaZ++([UInt8.ofNat v.toNat,rev,fl]++ZO (ZU ⟨v.toNat,rev,fl,fs⟩).length) else []))):=rfl;generalize hP:Zd7 w (ZaS ⟨v.toNat,rev,fl,fs⟩)=P at*;have ST0:Hid (CSt w ((w.alloc (.cells #[.int .i64 v,.int .u8 rev.toNat,.int .u8 fl.toNat,.slice A fs.length c] 84)).alloc (.cells #[.int .i64 0,.int .i64 0] 62)) v rev fl (.slice A fs.length c)):=Lib.hid ⟨(Bx.new w _ _).alloc _,by have:=Bx.new (w.alloc (.cells #[.int .i64 v,.int .u8 rev.toNat,.int .u8 fl.toNat,.slice A fs.length c] 84)) #[.int .i64 0,.int .i64 0] 62;rw [World.size_alloc] at this;exact this,((Below.refl _ _).alloc (Nat.le_refl _) _).alloc (by simp) _⟩;have hchk:∀wx,Below w.heap.size w wx→Calls Tryz.prog 72 #[.agg #[.int .i64 v,.int .u8 rev.toNat,.int .u8 fl.toNat,.slice A fs.length c]] wx fun e w'=>e= .returned (.agg #[.int .i64 0,.int .i64 0])∧Below wx.heap.size wx w':=by
  intro wx hb;have:=ZjD v rev fl A c fs B0 wx (hr.below hb) hn hid;rw [hck] at this;exact this
 have hbdy:∀wx,Below w.heap.size w wx→Calls Tryz.prog 73 #[.agg #[.int .i64 v,.int .u8 rev.toNat,.int .u8 fl.toNat,.slice A fs.length c]] wx (Zd7 wx (ZU ⟨v.toNat,rev,fl,fs⟩)):=fun wx hb=>ZoX v rev fl A c fs B0 wx (hr.below hb) hn hok h2 hsum;unfold Zd7 at hbdy;have hbl2:(ZU ⟨v.toNat,rev,fl,fs⟩).length≤260000000:=by omega
 have hsf:=fun w=>ZeX (ZU ⟨v.toNat,rev,fl,fs⟩).length (by omega) w;have hszb:=Zl (ZU ⟨v.toNat,rev,fl,fs⟩);have hft:=fun w=>ZjE v rev fl w;have hbd:=fun w=>ZT 0 0 rfl w;have Hpt:=Lib.hid hpt;clear hr hid hck hok h2 hsum hbl hpt hwr;generalize ZaS ⟨v.toNat,rev,fl,fs⟩=PT at*;generalize ZU ⟨v.toNat,rev,fl,fs⟩=bd at*;have hszl:(ZO bd.length).length=4:=rfl;generalize ZO bd.length=sz at*;generalize ZbW v.toNat fl=FT at*;have hv0:0≤v∧v≤4:=by omega
 have hbv:∀w,Calls Tryz.prog 32 #[.int .u64 v,.int .i64 1] w fun e w'=>e= .returned (.string (B [UInt8.ofNat v.toNat]))∧Below w.heap.size w w':=by
  intro w;have:=ZeQ v.toNat 1 (by omega) (by omega) (by omega) w;rw [Int.toNat_of_nonneg hv0.1] at this;have e:Zah v.toNat 1=[UInt8.ofNat v.toNat]:=by
   simp only [Zah,Nat.pow_zero,Nat.div_one];rw [Nat.mod_eq_of_lt (by omega)]
  rw [e] at this;exact this
 generalize UInt8.ofNat v.toNat=v8 at*;have hj4:∀w:World,Calls Tryz.prog 27 #[.slice (some ⟨w.heap.size,0,none⟩) 4 4] (w.alloc (.cells #[.string (B [v8]),.string (B [rev]),.string (B [fl]),.string (B sz)] 9)) fun e w'=>e= .returned (.string (B ([v8,rev,fl]++sz)))∧Below (w.alloc (.cells #[.string (B [v8]),.string (B [rev]),.string (B [fl]),.string (B sz)] 9)).heap.size (w.alloc (.cells #[.string (B [v8]),.string (B [rev]),.string (B [fl]),.string (B sz)] 9)) w':=fun w=>by
  have:=Zg2 [[v8],[rev],[fl],sz] (by simp) (by simp;omega) (by simp) w;have e:([[v8],[rev],[fl],sz]:List (List UInt8)).flatten=[v8,rev,fl]++sz:=by simp
  rw [e] at this;exact this
 have hl1:=rev.toNat_lt;have hl2:=fl.toNat_lt;have hwp0:IntKind.u64.wrap v=v:=by rw [IntKind.wrap_u64];omega
 have hwp1:IntKind.u64.wrap (rev.toNat:Int)=rev.toNat:=by rw [IntKind.wrap_u64];omega
 have hwp2:IntKind.u64.wrap (fl.toNat:Int)=fl.toNat:=by rw [IntKind.wrap_u64];omega
 obtain⟨⟨c0,c1,c2,c3⟩,⟨r0,r1⟩,rf,l1,l2⟩:=ST0.out.cells;go_enter Tryz.func26,Tryz.ntmps26
 go_upto_region 8 with(first
  |(go_at_call 72;refine(hchk _ ST0.out.low).mono ?_;rintro e w1 ⟨rfl,hb1⟩;have ST1:=Lib.hid (ST0.out.below hb1);clear hb1)
  |(go_at_call 7;refine(hbd _).mono ?_;rintro e w2 ⟨rfl,hb2⟩;first|(have ST2:=Lib.hid ((ST1.out.alloc (.cells #[.int .i64 0,.int .i64 0] 62)).below hb2);clear hb2 c0 c1 c2 c3 r0 r1 rf l1 l2;obtain⟨⟨c0,c1,c2,c3⟩,⟨r0,r1⟩,rf,l1,l2⟩:=ST2.out.cells)|(have ST4:=Lib.hid ((ST3.out.alloc (.cells #[.int .i64 0,.int .i64 0] 62)).below hb2);clear hb2 c0 c1 c2 c3 r0 r1 rf l1 l2;obtain⟨⟨c0,c1,c2,c3⟩,⟨r0,r1⟩,rf,l1,l2⟩:=ST4.out.cells))
  |(go_at_call 73;refine(hbdy _ ST2.out.low).mono ?_;rintro e w3 ⟨rfl,hb3⟩;have ST3:=Lib.hid (ST2.out.below hb3);clear hb3)
  |(go_at_call 74;refine(hsf _).mono ?_;rintro e w5 ⟨rfl,hb5⟩;have ST5:=Lib.hid (ST4.out.below hb5);clear hb5 c0 c1 c2 c3 r0 r1 rf l1 l2;obtain⟨⟨c0,c1,c2,c3⟩,⟨r0,r1⟩,rf,l1,l2⟩:=ST5.out.cells))
 go_cut [9] (fun s9 wx=>s9= .string (B ([v8,rev,fl]++sz))∧CSt w wx v rev fl (.slice A fs.length c))
 case first=>
  go_region_held3 (fun w'=>w'.cell? ⟨w.heap.size,0,none⟩=some (.int .i64 v)∧w'.cell? ⟨w.heap.size,1,none⟩=some (.int .u8 rev.toNat)∧w'.cell? ⟨w.heap.size,2,none⟩=some (.int .u8 fl.toNat))
   (first|with_reducible exact(CSt.keep3 (ST5.out.below (Za8 (Below.refl _ _))))|with_reducible exact CSt.keep3 SB1.out|with_reducible exact CSt.keep3 SB2.out|with_reducible exact CSt.keep3 SB3.out|with_reducible exact CSt.keep3 (SB3.out.alloc _)|with_reducible exact CSt.keep3 SB4.out)
   (first
    |(go_at_call 32;(first|((with_reducible refine(hbv _).mono ?_);rintro e wb ⟨rfl,hbb⟩)|((with_reducible refine(ZdB _ _).mono ?_);rintro e wb ⟨rfl,hbb⟩));first|(have SB1:=Lib.hid ((ST5.out.below (Za8 (Below.refl _ _))).below hbb))|(have SB2:=Lib.hid (SB1.out.below hbb))|(have SB3:=Lib.hid (SB2.out.below hbb)))
    |(go_at_call 27;refine(hj4 _).mono ?_;rintro e wj ⟨rfl,hbj⟩;have SB4:=Lib.hid ((SB3.out.alloc _).below hbj)))
  all_goals
   go_wp2_with fail
   go_meet
   exact⟨rfl,SB4.out⟩
 obtain⟨rfl,hcut⟩:=hcut;have ST6:=Lib.hid hcut;clear hcut c0 c1 c2 c3 r0 r1 rf l1 l2;obtain⟨⟨c0,c1,c2,c3⟩,⟨r0,r1⟩,rf,l1,l2⟩:=ST6.out.cells
 go_upto_if 54 with(go_at_call 75;refine(hft _).mono ?_;rintro e w7 ⟨rfl,hb7⟩;have OV:=Lib.hid (OwS.below (show OwS w (wc.alloc (.cells #[.string ⟨#[73,68,51]⟩,.string (B ([v8,rev,fl]++sz)),.string (B bd)] 9)) (.slice (some ⟨wc.heap.size,0,none⟩) 3 3) [ZB,[v8,rev,fl]++sz,bd] from World.ownsRow_lit (base:=w.heap.size+2) (e:=9) (size:=1) wc #[.string ⟨#[73,68,51]⟩,.string (B ([v8,rev,fl]++sz)),.string (B bd)] 3 (by omega) (by decide) rfl) hb7);have ST7:=Lib.hid ((ST6.out.alloc _).below hb7);clear hb7 c0 c1 c2 c3 r0 r1 rf l1 l2;obtain⟨⟨c0,c1,c2,c3⟩,⟨r0,r1⟩,rf,l1,l2⟩:=ST7.out.cells)
 go_cut [10] (fun s10 wx=>CSt w wx v rev fl (.slice A fs.length c)∧OwS w wx s10 ([ZB,[v8,rev,fl]++sz,bd]++if FT then [ZaZ,[v8,rev,fl]++sz] else []))
 case first=>
  cases FT with
  |true=>
   go_wp2_with (at_builtin;refine Zhj rfl _ _ rfl (w.heap.size+2) (.slice (some ⟨wc.heap.size,0,none⟩) 3 3) [ZB,[v8,rev,fl]++sz,bd] rfl w7 ZaZ ([v8,rev,fl]++sz) OV.out (by omega) (by simp) rfl ?_;intro v6 w9 HO6 hb6 hg6;have SX:=Lib.hid (ST7.out.low2 hb6);clear hb6 hg6)
   go_meet
   exact⟨SX.out,HO6.out⟩
  |false=>
   go_wp2_with fail
   go_meet
   exact⟨ST7.out,OV.out⟩
 have ST8:=Lib.hid hcut.1;have OW8:=Lib.hid hcut.2;obtain⟨_,A8,c8,hv8,hc8⟩:=ZaL hcut.2;subst hv8;have hfl:([ZB,[v8,rev,fl]++sz,bd]++if FT then [ZaZ,[v8,rev,fl]++sz] else []).flatten=PT:=by
  rw [Hpt.out];cases FT<;>simp
 have hjn:∀wx,wx=wc→Calls Tryz.prog 27 #[.slice A8 ([ZB,[v8,rev,fl]++sz,bd]++if FT then [ZaZ,[v8,rev,fl]++sz] else []).length c8] wx fun e w'=>e= .returned (.string (B PT))∧Below wx.heap.size wx w':=by
  rintro wx rfl;have:=Zjk OW8.out (by rw [hfl,Hpt.out];cases FT<;>simp [ZB,ZaZ]<;>omega) (by cases FT<;>simp);rw [hfl] at this;exact this
 clear hcut hfl c0 c1 c2 c3 r0 r1 rf l1 l2;obtain⟨⟨c0,c1,c2,c3⟩,⟨r0,r1⟩,rf,l1,l2⟩:=ST8.out.cells;generalize ([ZB,[v8,rev,fl]++sz,bd]++if FT then [ZaZ,[v8,rev,fl]++sz] else []).length=n8 at*;go_wp2_with (go_at_call 27;refine(hjn _ rfl).mono ?_;rintro e wz ⟨rfl,hbz⟩;have SZ:=Lib.hid (ST8.out.below hbz);clear hbz c0 c1 c2 c3 r0 r1 rf l1 l2;obtain⟨⟨c0,c1,c2,c3⟩,⟨r0,r1⟩,rf,l1,l2⟩:=SZ.out.cells)
 have F:=SZ.out.fin (.int .i64 0) (.int .i64 0);refine bodyPost_ret (ZaT rfl _ _ (w.heap.size+1) _ _ _ _ _ rfl rfl F.1 Tryz.underlying62 rfl (by kernel_rfl)) rfl ?_;rw [←hP];exact⟨rfl,F.2⟩
end Go.Proofs.YtecandjkbbpooaaGreatDoor
