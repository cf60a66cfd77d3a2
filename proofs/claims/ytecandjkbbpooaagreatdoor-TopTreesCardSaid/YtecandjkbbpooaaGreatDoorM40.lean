/- Lemmas for a statement on the tops; conditions: as each says. -/
import Derived.Test.YtecandjkbbpooaaGreatDoorM39
set_option linter.unusedVariables false
set_option linter.unusedSimpArgs false
set_option maxRecDepth 100000
set_option maxHeartbeats 1000000
namespace Go.Proofs.YtecandjkbbpooaaGreatDoor
open Go Go.RowKit
def Zcn (w:World)(e:Ending)(w':World):Prop:=(∃n a:Int,e= .returned (.tuple #[.string ⟨#[]⟩,.agg #[.int .i64 n,.int .i64 a]])∧1≤n)∧Below w.heap.size w w'
theorem ZnR (v:Nat)(id:List UInt8)(hid:id.length≤100000)(A:Option Addr)(c:Nat)(ps:List Pi)(w:World)(hr:RdN 4 piL w w.heap.size A ps)(hn:ps.length≤100000)(hps:∀p∈ps,p.text.length≤100000)(hG:Grd w)(hck:1≤(Zaj v id ps).1):
 Calls Tryz.prog 71 #[.int .i64 v,.string (B id),.slice A ps.length c] w (Zcn w):=by
 generalize hP:Zcn w=P at*;have hchk:∀wx,Below w.heap.size w wx→Calls Tryz.prog 143 #[.int .i64 v,.string (B id),.slice A ps.length c] wx fun e w'=>e= .returned (.agg #[.int .i64 (Zaj v id ps).1,.int .i64 (Zaj v id ps).2])∧Below wx.heap.size wx w':=fun wx hb=>by
  exact Zi8 v id hid A c ps wx ((hr.below hb).more hb.size) hn hps (hG.below hb)
 have hck2:(1:Int)≤((Zaj v id ps).1:Nat):=by omega
 generalize ((Zaj v id ps).1:Int)=n at*;generalize ((Zaj v id ps).2:Int)=a at*;have hbd:=fun w=>Zaq n a (by omega) w;have HP:=Lib.hid hP;have HN:=Lib.hid hck2;clear hr hn hps hG hP hck hck2;generalize Value.slice A ps.length c=vp at*;go_enter Tryz.func71,Tryz.ntmps71
 go_wp2_with (first
  |(go_at_call 143;refine(hchk _ ((Below.refl _ _).alloc (Nat.le_refl _) _)).mono ?_;clear hchk;rintro e w1 ⟨rfl,hb1⟩;have R1:=Lib.hid ((Bx.new w _ _).below hb1);have L1:=Lib.hid (Ze hb1);clear hb1)
  |(go_at_call 7;refine(hbd _).mono ?_;rintro e w2 ⟨rfl,hb2⟩;have R2:=Lib.hid ((R1.out.alloc _).below hb2);have C2:=Lib.hid ((Bx.new w1 #[.int .i64 n,.int .i64 a] 62).below hb2);have L2:=Lib.hid (L1.out.trans ((Ze hb2).mono L1.out.size));clear hb2;have r0:=R2.out.cell 0;have r1:=R2.out.cell 1;have f0:=R2.out.free 0;have f1:=R2.out.free 1;have c0:=C2.out.cell 0;have c1:=C2.out.cell 1))
 go_region
 all_goals
  go_wp2_with fail
  refine bodyPost_ret (ZaT rfl _ _ w.heap.size _ _ _ _ _ rfl rfl (Za9 R2.out (.int .i64 n) (.int .i64 a)).drew Tryz.underlying62 rfl (by kernel_rfl)) rfl ?_;rw [←HP.out];exact⟨⟨n,a,rfl,HN.out⟩,Za8 ((L2.out.setCell (Nat.le_refl _) _).setCell (Nat.le_refl _) _)⟩
theorem Zn7 (v:Int)(id:List UInt8)(hid:id.length≤100000)(w:World):
 Calls Tryz.prog 105 #[.int .i64 v,.string (B id)] w fun e w'=>e= .returned (.string (B (Zm (Zd v.toNat id))))∧w=w':=by
 by_cases h0:0≤v
 · have:=ZeT v.toNat id hid w
   rwa [Int.toNat_of_nonneg h0] at this
 · rw [Zgj v.toNat id (by omega),show Zm []=[] from rfl];have q2:(v==2)=false:=by rw [beq_eq_false_iff_ne];omega
   have q3:(v==3)=false:=by rw [beq_eq_false_iff_ne];omega
   have q4:(v==4)=false:=by rw [beq_eq_false_iff_ne];omega
   clear h0;go_enter Tryz.func105,Tryz.ntmps105
   go_wp2_with fail
   go_ret
   exact⟨rfl,rfl⟩
theorem Zi6 (v:Int)(f:Fr)(hid:f.id.length≤100000)(w:World):
 Calls Tryz.prog 42 #[.int .i64 v,.agg #[.string (B f.id),.int .u8 f.st.toNat,.int .u8 f.fm.toNat,.int .u8 f.grp.toNat,.string (B f.body),.int .i64 f.at_]] w fun e w'=>e= .returned (.bool (!decide (Zd v.toNat f.id=[])))∧Below w.heap.size w w':=by
 by_cases hv:0≤v
 · have:=ZeR v.toNat f hid w
   rwa [Int.toNat_of_nonneg hv] at this
 · have hla:=fun w=>Zn7 v f.id hid w;have HB:=Lib.hid ((Below.refl w.heap.size w).alloc (Nat.le_refl _) (.cells #[.string (B f.id),.int .u8 f.st.toNat,.int .u8 f.fm.toNat,.int .u8 f.grp.toNat,.string (B f.body),.int .i64 f.at_] 34));have h0:Zd v.toNat f.id=[]:=Zgj v.toNat f.id (by omega);rw [h0,show B (Zm [])=⟨#[]⟩ from rfl] at hla;rw [h0,decide_eq_true rfl];clear h0 hv;go_enter Tryz.func42,Tryz.ntmps42
   go_wp2_with (go_at_call 105;refine(hla _).mono ?_;rintro e w1 ⟨rfl,rfl⟩)
   go_ret
   exact⟨rfl,HB.out⟩
theorem Zki:∀(ls:List Lt) (ps:List Pi) (i:Nat),(ckL ls ps i).1=0→ckL ls ps i=(0,0)
 |[],[],_,_=>rfl
 |[],_::_,_,h=>absurd h (by simp [ckL])
 |_::_,[],_,h=>absurd h (by simp [ckL])
 |l::ls,p::ps,i,h=>by
  unfold ckL at h⊢;split at h
  · exact absurd h ‹_›
  · rename_i hw
    rw [if_neg hw];exact Zki ls ps (i+1) h
theorem ZpM {v:Nat} {id:List UInt8} {ps:List Pi} (h:Zaj v id ps≠(0,0)):1≤(Zaj v id ps).1:=by
 rcases Nat.eq_zero_or_pos (Zaj v id ps).1 with h0|h0
 · exact absurd (Zki _ _ _ h0) h
 · exact h0
theorem b_nil {l:List UInt8} (h:l≠[]):(B l).toList.isEmpty=false:=Zeg h
def ZP (v:Nat)(f:Fr)(ps:List Pi):Option Fr:=
 if Zd v f.id=[] then(if ps=[] then some f else none)
 else if Zaj v f.id ps≠(0,0) then none
 else if f.body≠[]∨ZJ v f.fm=true then none
 else some {f with body:=UInt8.ofNat (Zo v)::prL (Zo v) (Zd v f.id) ps}
def Zbm (w:World)(r:Option Fr)(e:Ending)(w':World):Prop:=Below w.heap.size w w'∧match r with
 |some f=>e= .returned (.tuple #[.agg #[.string (B f.id),.int .u8 f.st.toNat,.int .u8 f.fm.toNat,.int .u8 f.grp.toNat,.string (B f.body),.int .i64 f.at_],.int .i64 0])
 |none=>∃n:Int,e= .returned (.tuple #[.agg #[.string ⟨#[]⟩,.int .u8 0,.int .u8 0,.int .u8 0,.string ⟨#[]⟩,.int .i64 0],.int .i64 n])∧1≤n
theorem Zn2 (v:Int)(f:Fr)(hid:f.id.length≤100000)(A:Option Addr)(n c:Nat)(w:World)(h0:Zd v.toNat f.id=[])(hn:n=0):
 Calls Tryz.prog 25 #[.agg #[.string (B f.id),.int .u8 f.st.toNat,.int .u8 f.fm.toNat,.int .u8 f.grp.toNat,.string (B f.body),.int .i64 f.at_,.slice A n c],.int .i64 v] w (Zbm w (some f)):=by
 have hkn:=fun w=>Zi6 v f hid w;rw [h0,decide_eq_true rfl,Bool.not_true] at hkn;generalize hP:Zbm w _=P at*;have hP2:(fun(e:Ending) (w':World)=>Below w.heap.size w w'∧e= .returned (.tuple #[.agg #[.string (B f.id),.int .u8 f.st.toNat,.int .u8 f.fm.toNat,.int .u8 f.grp.toNat,.string (B f.body),.int .i64 f.at_],.int .i64 0]))=P:=hP;have HP:=Lib.hid hP2;clear hP2;clear h0 hid hP;subst hn;have hP0:True:=trivial;generalize B f.id=id at*;generalize f.at_=at_ at*;generalize f.st.toNat=st at*;generalize f.fm.toNat=fm at*;generalize f.grp.toNat=grp at*;generalize B f.body=bd at*;have bi:Bx ((w.alloc (.cells #[.string id,.int .u8 st,.int .u8 fm,.int .u8 grp,.string bd,.int .i64 at_,.slice A 0 c] 37)).alloc (.cells #[.string ⟨#[]⟩,.int .u8 0,.int .u8 0,.int .u8 0,.string ⟨#[]⟩,.int .i64 0] 34)) w.heap.size #[.string id,.int .u8 st,.int .u8 fm,.int .u8 grp,.string bd,.int .i64 at_,.slice A 0 c] 37:=(Bx.new w _ _).alloc _;have hm:((w.alloc (.cells #[.string id,.int .u8 st,.int .u8 fm,.int .u8 grp,.string bd,.int .i64 at_,.slice A 0 c] 37)).alloc (.cells #[.string ⟨#[]⟩,.int .u8 0,.int .u8 0,.int .u8 0,.string ⟨#[]⟩,.int .i64 0] 34)).rangeAt w.heap.size 0 [.string id,.int .u8 st,.int .u8 fm,.int .u8 grp,.string bd,.int .i64 at_]:=fun j u hu=>by
  rw [Nat.zero_add,bi.cell j];have hj:j<6:=(List.getElem?_eq_some_iff.1 hu).1
  match j,hj,hu with
  |0,_,hu=>exact hu
  |1,_,hu=>exact hu
  |2,_,hu=>exact hu
  |3,_,hu=>exact hu
  |4,_,hu=>exact hu
  |5,_,hu=>exact hu
 have Hm:=Lib.hid hm;have S0:=Lib.hid (WhSt.new w #[.string id,.int .u8 st,.int .u8 fm,.int .u8 grp,.string bd,.int .i64 at_,.slice A 0 c] #[.string id,.int .u8 st,.int .u8 fm,.int .u8 grp,.string bd,.int .i64 at_]);clear hm bi hP0;go_enter Tryz.func25,Tryz.ntmps25
 go_upto_region 2 with(refine wpList_load_mid rfl 34 _ rfl w.heap.size 0 rfl [.string id,.int .u8 st,.int .u8 fm,.int .u8 grp,.string bd,.int .i64 at_] _ Hm.out Tryz.underlying34 rfl (by kernel_rfl) ?_)
 clear Hm;generalize (((w.alloc _).alloc _).alloc _)=W0 at*;generalize w.heap.size+1+1=F at*;have hF:=S0.out.hF;obtain⟨i6,⟨c0,c1,c2,c3,c4,c5,f4⟩,⟨⟨r0,r1,r2,r3,r4,r5⟩,rf⟩,l3⟩:=S0.out.cells;go_wp2_with (go_at_call 42;refine(hkn _).mono ?_;clear hkn;rintro e w1 ⟨rfl,hb1⟩;have S1:=Lib.hid (S0.out.below hb1);clear hb1 S0 i6 c0 c1 c2 c3 c4 c5 f4 r0 r1 r2 r3 r4 r5 rf l3;obtain⟨i6,⟨c0,c1,c2,c3,c4,c5,f4⟩,⟨⟨r0,r1,r2,r3,r4,r5⟩,rf⟩,l3⟩:=S1.out.cells)
 have X1:=Zei S1.out.r (.string id) (.int .u8 st) (.int .u8 fm) (.int .u8 grp) (.string bd) (.int .i64 at_);refine bodyPost_ret (ZeD rfl _ _ (w.heap.size+1) _ _ _ _ (.int .i64 0) rfl rfl X1 Tryz.underlying34 rfl (by kernel_rfl)) rfl ?_;rw [←HP.out];exact⟨ZeG S1.out.low (Nat.le_succ _) _ _ _ _ _ _,rfl⟩
theorem Zn3 (v:Int)(f:Fr)(hid:f.id.length≤100000)(A:Option Addr)(n c:Nat)(w:World)(h0:Zd v.toNat f.id=[])(hn:0<n):
 Calls Tryz.prog 25 #[.agg #[.string (B f.id),.int .u8 f.st.toNat,.int .u8 f.fm.toNat,.int .u8 f.grp.toNat,.string (B f.body),.int .i64 f.at_,.slice A n c],.int .i64 v] w (Zbm w none):=by
 have hkn:=fun w=>Zi6 v f hid w;rw [h0,decide_eq_true rfl,Bool.not_true] at hkn;generalize hP:Zbm w _=P at*;unfold Zbm at hP;have HP:=Lib.hid hP;clear h0 hid hP;have hn':(0:Int)<n:=by omega
 have hP0:True:=trivial;generalize B f.id=id at*;generalize f.at_=at_ at*;generalize f.st.toNat=st at*;generalize f.fm.toNat=fm at*;generalize f.grp.toNat=grp at*;generalize B f.body=bd at*;have bi:Bx ((w.alloc (.cells #[.string id,.int .u8 st,.int .u8 fm,.int .u8 grp,.string bd,.int .i64 at_,.slice A n c] 37)).alloc (.cells #[.string ⟨#[]⟩,.int .u8 0,.int .u8 0,.int .u8 0,.string ⟨#[]⟩,.int .i64 0] 34)) w.heap.size #[.string id,.int .u8 st,.int .u8 fm,.int .u8 grp,.string bd,.int .i64 at_,.slice A n c] 37:=(Bx.new w _ _).alloc _;have hm:((w.alloc (.cells #[.string id,.int .u8 st,.int .u8 fm,.int .u8 grp,.string bd,.int .i64 at_,.slice A n c] 37)).alloc (.cells #[.string ⟨#[]⟩,.int .u8 0,.int .u8 0,.int .u8 0,.string ⟨#[]⟩,.int .i64 0] 34)).rangeAt w.heap.size 0 [.string id,.int .u8 st,.int .u8 fm,.int .u8 grp,.string bd,.int .i64 at_]:=fun j u hu=>by
  rw [Nat.zero_add,bi.cell j];have hj:j<6:=(List.getElem?_eq_some_iff.1 hu).1
  match j,hj,hu with
  |0,_,hu=>exact hu
  |1,_,hu=>exact hu
  |2,_,hu=>exact hu
  |3,_,hu=>exact hu
  |4,_,hu=>exact hu
  |5,_,hu=>exact hu
 have Hm:=Lib.hid hm;have S0:=Lib.hid (WhSt.new w #[.string id,.int .u8 st,.int .u8 fm,.int .u8 grp,.string bd,.int .i64 at_,.slice A n c] #[.string id,.int .u8 st,.int .u8 fm,.int .u8 grp,.string bd,.int .i64 at_]);clear hm bi hP0;go_enter Tryz.func25,Tryz.ntmps25
 go_upto_region 2 with(refine wpList_load_mid rfl 34 _ rfl w.heap.size 0 rfl [.string id,.int .u8 st,.int .u8 fm,.int .u8 grp,.string bd,.int .i64 at_] _ Hm.out Tryz.underlying34 rfl (by kernel_rfl) ?_)
 clear Hm;generalize (((w.alloc _).alloc _).alloc _)=W0 at*;generalize w.heap.size+1+1=F at*;have hF:=S0.out.hF;obtain⟨i6,⟨c0,c1,c2,c3,c4,c5,f4⟩,⟨⟨r0,r1,r2,r3,r4,r5⟩,rf⟩,l3⟩:=S0.out.cells;go_wp2_with (go_at_call 42;refine(hkn _).mono ?_;clear hkn;rintro e w1 ⟨rfl,hb1⟩;have S1:=Lib.hid (S0.out.below hb1);clear hb1 S0 i6 c0 c1 c2 c3 c4 c5 f4 r0 r1 r2 r3 r4 r5 rf l3;obtain⟨i6,⟨c0,c1,c2,c3,c4,c5,f4⟩,⟨⟨r0,r1,r2,r3,r4,r5⟩,rf⟩,l3⟩:=S1.out.cells)
 have X1:=Zei S1.out.r (.string ⟨#[]⟩) (.int .u8 0) (.int .u8 0) (.int .u8 0) (.string ⟨#[]⟩) (.int .i64 0);refine bodyPost_ret (ZeD rfl _ _ (w.heap.size+1) _ _ _ _ (.int .i64 5) rfl rfl X1 Tryz.underlying34 rfl (by kernel_rfl)) rfl ?_;rw [←HP.out];exact⟨ZeG S1.out.low (Nat.le_succ _) _ _ _ _ _ _,5,rfl,by decide⟩
theorem ZnZ (v:Nat)(f:Fr)(hid:f.id.length≤100000)(A:Option Addr)(c:Nat)(ps:List Pi)(w:World)(hr:RdN 4 piL w w.heap.size A ps)(hn:ps.length≤100000)(hps:∀p∈ps,p.text.length≤100000)(hG:Grd w)(h0:Zd v f.id≠[])(hck:1≤(Zaj v f.id ps).1):
 Calls Tryz.prog 25 #[.agg #[.string (B f.id),.int .u8 f.st.toNat,.int .u8 f.fm.toNat,.int .u8 f.grp.toNat,.string (B f.body),.int .i64 f.at_,.slice A ps.length c],.int .i64 v] w (Zbm w none):=by
 have hkn:=fun w=>ZeR v f hid w;rw [decide_eq_false h0,Bool.not_false] at hkn;have hfp:∀wx,Below w.heap.size w wx→Calls Tryz.prog 71 #[.int .i64 v,.string (B f.id),.slice A ps.length c] wx (Zcn wx):=fun wx hb=>ZnR v f.id hid A c ps wx ((hr.below hb).more hb.size) hn hps (hG.below hb) hck;unfold Zcn at hfp;have hby:=fun(n a:Int) (hn:1≤n) wx=>Zaq n a (by omega) wx;generalize hP:Zbm w _=P at*;unfold Zbm at hP;have HP:=Lib.hid hP;clear h0 hid hP hr hn hps hG hck;generalize Value.slice A ps.length c=vp at*;have hP0:True:=trivial;generalize B f.id=id at*;generalize f.at_=at_ at*;generalize f.st.toNat=st at*;generalize f.fm.toNat=fm at*;generalize f.grp.toNat=grp at*;generalize B f.body=bd at*;have bi:Bx ((w.alloc (.cells #[.string id,.int .u8 st,.int .u8 fm,.int .u8 grp,.string bd,.int .i64 at_,vp] 37)).alloc (.cells #[.string ⟨#[]⟩,.int .u8 0,.int .u8 0,.int .u8 0,.string ⟨#[]⟩,.int .i64 0] 34)) w.heap.size #[.string id,.int .u8 st,.int .u8 fm,.int .u8 grp,.string bd,.int .i64 at_,vp] 37:=(Bx.new w _ _).alloc _;have hm:((w.alloc (.cells #[.string id,.int .u8 st,.int .u8 fm,.int .u8 grp,.string bd,.int .i64 at_,vp] 37)).alloc (.cells #[.string ⟨#[]⟩,.int .u8 0,.int .u8 0,.int .u8 0,.string ⟨#[]⟩,.int .i64 0] 34)).rangeAt w.heap.size 0 [.string id,.int .u8 st,.int .u8 fm,.int .u8 grp,.string bd,.int .i64 at_]:=fun j u hu=>by
  rw [Nat.zero_add,bi.cell j];have hj:j<6:=(List.getElem?_eq_some_iff.1 hu).1
  match j,hj,hu with
  |0,_,hu=>exact hu
  |1,_,hu=>exact hu
  |2,_,hu=>exact hu
  |3,_,hu=>exact hu
  |4,_,hu=>exact hu
  |5,_,hu=>exact hu
 have Hm:=Lib.hid hm;have S0:=Lib.hid (WhSt.new w #[.string id,.int .u8 st,.int .u8 fm,.int .u8 grp,.string bd,.int .i64 at_,vp] #[.string id,.int .u8 st,.int .u8 fm,.int .u8 grp,.string bd,.int .i64 at_]);clear hm bi hP0;go_enter Tryz.func25,Tryz.ntmps25
 go_upto_region 2 with(refine wpList_load_mid rfl 34 _ rfl w.heap.size 0 rfl [.string id,.int .u8 st,.int .u8 fm,.int .u8 grp,.string bd,.int .i64 at_] _ Hm.out Tryz.underlying34 rfl (by kernel_rfl) ?_)
 clear Hm;generalize (((w.alloc _).alloc _).alloc _)=W0 at*;generalize w.heap.size+1+1=F at*;have hF:=S0.out.hF;obtain⟨i6,⟨c0,c1,c2,c3,c4,c5,f4⟩,⟨⟨r0,r1,r2,r3,r4,r5⟩,rf⟩,l3⟩:=S0.out.cells;go_upto_region 8 with(first
  |(go_at_call 42;refine(hkn _).mono ?_;clear hkn;rintro e w1 ⟨rfl,hb1⟩;have S1:=Lib.hid (S0.out.below hb1);clear hb1 S0 i6 c0 c1 c2 c3 c4 c5 f4 r0 r1 r2 r3 r4 r5 rf l3;obtain⟨i6,⟨c0,c1,c2,c3,c4,c5,f4⟩,⟨⟨r0,r1,r2,r3,r4,r5⟩,rf⟩,l3⟩:=S1.out.cells)
  |(go_at_call 71;refine(hfp _ S1.out.low).mono ?_;clear hfp;rintro e w2 ⟨⟨n,a,rfl,hn1⟩,hb2⟩;have S2:=Lib.hid (S1.out.below hb2);have HN1:=Lib.hid hn1;have hby2:=fun wx=>hby n a hn1 wx;clear hn1;clear hb2 S1 i6 c0 c1 c2 c3 c4 c5 f4 r0 r1 r2 r3 r4 r5 rf l3)
  |(go_at_call 7;refine(hby2 _).mono ?_;clear hby hby2;rintro e w3 ⟨rfl,hb3⟩;have S3:=Lib.hid (((S2.out.below ((Below.refl _ _).alloc (Nat.le_refl _) _))).below hb3);have hz2:=S2.out.r.lt;have FB:=Lib.hid ((Bx.new w2 #[.int .i64 n,.int .i64 a] 62).below hb3);clear hb3 S2;obtain⟨i6,⟨c0,c1,c2,c3,c4,c5,f4⟩,⟨⟨r0,r1,r2,r3,r4,r5⟩,rf⟩,l3⟩:=S3.out.cells;have u0:=FB.out.cell 0))
 go_region
 all_goals
  go_wp2_with fail
  have X1:=Zei S3.out.r (.string ⟨#[]⟩) (.int .u8 0) (.int .u8 0) (.int .u8 0) (.string ⟨#[]⟩) (.int .i64 0);refine bodyPost_ret (ZeD rfl _ _ (w.heap.size+1) _ _ _ _ (.int .i64 n) rfl rfl X1.drew Tryz.underlying34 rfl (by kernel_rfl)) rfl ?_;rw [←HP.out];exact⟨Za8 (ZeG S3.out.low (Nat.le_succ _) _ _ _ _ _ _),n,rfl,HN1.out⟩
theorem Zn0 (v:Nat)(f:Fr)(hid:f.id.length≤100000)(A:Option Addr)(c:Nat)(ps:List Pi)(w:World)(hr:RdN 4 piL w w.heap.size A ps)(hps:∀p∈ps,p.text.length≤100000)(hG:Grd w)(h0:Zd v f.id≠[])(hck:Zaj v f.id ps=(0,0))(hbl:f.body≠[]∨ZJ v f.fm=true):
 Calls Tryz.prog 25 #[.agg #[.string (B f.id),.int .u8 f.st.toNat,.int .u8 f.fm.toNat,.int .u8 f.grp.toNat,.string (B f.body),.int .i64 f.at_,.slice A ps.length c],.int .i64 v] w (Zbm w none):=by
 have hkn:=fun w=>ZeR v f hid w;rw [decide_eq_false h0,Bool.not_false] at hkn;have hfp:∀wx,Below w.heap.size w wx→Calls Tryz.prog 71 #[.int .i64 v,.string (B f.id),.slice A ps.length c] wx (Zd8 wx (UInt8.ofNat (Zo v)::prL (Zo v) (Zd v f.id) ps)):=fun wx hb=>Zi9 v f.id hid A c ps wx ((hr.below hb).more hb.size) hps (hG.below hb) h0 hck;unfold Zd8 at hfp;have hlk:=fun w=>Zdc (B f.id) f.st f.fm v w;rw [Int.toNat_natCast] at hlk;have hbd:=fun w=>ZT 0 0 rfl w;generalize UInt8.ofNat (Zo v)::prL (Zo v) (Zd v f.id) ps=out at*;generalize Value.slice A ps.length c=vp at*;generalize hP:Zbm w _=P at*;unfold Zbm at hP;have HP:=Lib.hid hP;have hbe:(f.body=[]∧ZJ v f.fm=true)∨(B f.body).toList.isEmpty=false:=by
  by_cases hb:f.body=[]
  · exact .inl ⟨hb,hbl.resolve_left (fun h=>h hb)⟩
  · exact .inr (b_nil hb)
 clear h0 hid hP hr hps hG hck hbl;rcases hbe with⟨hbe,hlt⟩|hbe
 · rw [hlt] at hlk;rw [hbe,show B []=⟨#[]⟩ from rfl] at hkn;have hbe2:B f.body=⟨#[]⟩:=by rw [hbe];rfl
   rw [hbe2];clear hbe hbe2 hlt;have hP0:True:=trivial;generalize B f.id=id at*;generalize f.at_=at_ at*;generalize f.st.toNat=st at*;generalize f.fm.toNat=fm at*;generalize f.grp.toNat=grp at*;have bi:Bx ((w.alloc (.cells #[.string id,.int .u8 st,.int .u8 fm,.int .u8 grp,.string ⟨#[]⟩,.int .i64 at_,vp] 37)).alloc (.cells #[.string ⟨#[]⟩,.int .u8 0,.int .u8 0,.int .u8 0,.string ⟨#[]⟩,.int .i64 0] 34)) w.heap.size #[.string id,.int .u8 st,.int .u8 fm,.int .u8 grp,.string ⟨#[]⟩,.int .i64 at_,vp] 37:=(Bx.new w _ _).alloc _;have hm:((w.alloc (.cells #[.string id,.int .u8 st,.int .u8 fm,.int .u8 grp,.string ⟨#[]⟩,.int .i64 at_,vp] 37)).alloc (.cells #[.string ⟨#[]⟩,.int .u8 0,.int .u8 0,.int .u8 0,.string ⟨#[]⟩,.int .i64 0] 34)).rangeAt w.heap.size 0 [.string id,.int .u8 st,.int .u8 fm,.int .u8 grp,.string ⟨#[]⟩,.int .i64 at_]:=fun j u hu=>by
    rw [Nat.zero_add,bi.cell j];have hj:j<6:=(List.getElem?_eq_some_iff.1 hu).1
    match j,hj,hu with
    |0,_,hu=>exact hu
    |1,_,hu=>exact hu
    |2,_,hu=>exact hu
    |3,_,hu=>exact hu
    |4,_,hu=>exact hu
    |5,_,hu=>exact hu
   have Hm:=Lib.hid hm;have S0:=Lib.hid (WhSt.new w #[.string id,.int .u8 st,.int .u8 fm,.int .u8 grp,.string ⟨#[]⟩,.int .i64 at_,vp] #[.string id,.int .u8 st,.int .u8 fm,.int .u8 grp,.string ⟨#[]⟩,.int .i64 at_]);clear hm bi hP0;go_enter Tryz.func25,Tryz.ntmps25
   go_upto_region 2 with(refine wpList_load_mid rfl 34 _ rfl w.heap.size 0 rfl [.string id,.int .u8 st,.int .u8 fm,.int .u8 grp,.string ⟨#[]⟩,.int .i64 at_] _ Hm.out Tryz.underlying34 rfl (by kernel_rfl) ?_)
   clear Hm;generalize (((w.alloc _).alloc _).alloc _)=W0 at*;generalize w.heap.size+1+1=F at*;have hF:=S0.out.hF;obtain⟨i6,⟨c0,c1,c2,c3,c4,c5,f4⟩,⟨⟨r0,r1,r2,r3,r4,r5⟩,rf⟩,l3⟩:=S0.out.cells;go_upto_region 9 with(first
    |(go_at_call 42;refine(hkn _).mono ?_;clear hkn;rintro e w1 ⟨rfl,hb1⟩;have S1:=Lib.hid (S0.out.below hb1);clear hb1 S0 i6 c0 c1 c2 c3 c4 c5 f4 r0 r1 r2 r3 r4 r5 rf l3;obtain⟨i6,⟨c0,c1,c2,c3,c4,c5,f4⟩,⟨⟨r0,r1,r2,r3,r4,r5⟩,rf⟩,l3⟩:=S1.out.cells)
    |(go_at_call 71;refine(hfp _ S1.out.low).mono ?_;clear hfp;rintro e w2 ⟨rfl,hb2⟩;have S2:=Lib.hid (S1.out.below hb2);clear hb2 S1 i6 c0 c1 c2 c3 c4 c5 f4 r0 r1 r2 r3 r4 r5 rf l3)
    |(go_at_call 7;refine(hbd _).mono ?_;rintro e w3 ⟨rfl,hb3⟩;have S3:=Lib.hid (((S2.out.below ((Below.refl _ _).alloc (Nat.le_refl _) _))).below hb3);clear hb3 S2;obtain⟨i6,⟨c0,c1,c2,c3,c4,c5,f4⟩,⟨⟨r0,r1,r2,r3,r4,r5⟩,rf⟩,l3⟩:=S3.out.cells))
   go_wp2_with (go_at_call 43;refine(hlk _).mono ?_;clear hlk;rintro e w4 ⟨rfl,hb4⟩;have S4:=Lib.hid (S3.out.below hb4);clear hb4 S3 i6 c0 c1 c2 c3 c4 c5 f4 r0 r1 r2 r3 r4 r5 rf l3;obtain⟨i6,⟨c0,c1,c2,c3,c4,c5,f4⟩,⟨⟨r0,r1,r2,r3,r4,r5⟩,rf⟩,l3⟩:=S4.out.cells)
   have X1:=Zei S4.out.r (.string ⟨#[]⟩) (.int .u8 0) (.int .u8 0) (.int .u8 0) (.string ⟨#[]⟩) (.int .i64 0);refine bodyPost_ret (ZeD rfl _ _ (w.heap.size+1) _ _ _ _ (.int .i64 5) rfl rfl X1 Tryz.underlying34 rfl (by kernel_rfl)) rfl ?_;rw [←HP.out];exact⟨ZeG S4.out.low (Nat.le_succ _) _ _ _ _ _ _,5,rfl,by decide⟩
 · clear hlk;have hP0:True:=trivial;generalize B f.id=id at*;generalize f.at_=at_ at*;generalize f.st.toNat=st at*;generalize f.fm.toNat=fm at*;generalize f.grp.toNat=grp at*;generalize B f.body=bd at*;have bi:Bx ((w.alloc (.cells #[.string id,.int .u8 st,.int .u8 fm,.int .u8 grp,.string bd,.int .i64 at_,vp] 37)).alloc (.cells #[.string ⟨#[]⟩,.int .u8 0,.int .u8 0,.int .u8 0,.string ⟨#[]⟩,.int .i64 0] 34)) w.heap.size #[.string id,.int .u8 st,.int .u8 fm,.int .u8 grp,.string bd,.int .i64 at_,vp] 37:=(Bx.new w _ _).alloc _;have hm:((w.alloc (.cells #[.string id,.int .u8 st,.int .u8 fm,.int .u8 grp,.string bd,.int .i64 at_,vp] 37)).alloc (.cells #[.string ⟨#[]⟩,.int .u8 0,.int .u8 0,.int .u8 0,.string ⟨#[]⟩,.int .i64 0] 34)).rangeAt w.heap.size 0 [.string id,.int .u8 st,.int .u8 fm,.int .u8 grp,.string bd,.int .i64 at_]:=fun j u hu=>by
    rw [Nat.zero_add,bi.cell j];have hj:j<6:=(List.getElem?_eq_some_iff.1 hu).1
    match j,hj,hu with
    |0,_,hu=>exact hu
    |1,_,hu=>exact hu
    |2,_,hu=>exact hu
    |3,_,hu=>exact hu
    |4,_,hu=>exact hu
    |5,_,hu=>exact hu
   have Hm:=Lib.hid hm;have S0:=Lib.hid (WhSt.new w #[.string id,.int .u8 st,.int .u8 fm,.int .u8 grp,.string bd,.int .i64 at_,vp] #[.string id,.int .u8 st,.int .u8 fm,.int .u8 grp,.string bd,.int .i64 at_]);clear hm bi hP0;go_enter Tryz.func25,Tryz.ntmps25
   go_upto_region 2 with(refine wpList_load_mid rfl 34 _ rfl w.heap.size 0 rfl [.string id,.int .u8 st,.int .u8 fm,.int .u8 grp,.string bd,.int .i64 at_] _ Hm.out Tryz.underlying34 rfl (by kernel_rfl) ?_)
   clear Hm;generalize (((w.alloc _).alloc _).alloc _)=W0 at*;generalize w.heap.size+1+1=F at*;have hF:=S0.out.hF;obtain⟨i6,⟨c0,c1,c2,c3,c4,c5,f4⟩,⟨⟨r0,r1,r2,r3,r4,r5⟩,rf⟩,l3⟩:=S0.out.cells;go_upto_region 9 with(first
    |(go_at_call 42;refine(hkn _).mono ?_;clear hkn;rintro e w1 ⟨rfl,hb1⟩;have S1:=Lib.hid (S0.out.below hb1);clear hb1 S0 i6 c0 c1 c2 c3 c4 c5 f4 r0 r1 r2 r3 r4 r5 rf l3;obtain⟨i6,⟨c0,c1,c2,c3,c4,c5,f4⟩,⟨⟨r0,r1,r2,r3,r4,r5⟩,rf⟩,l3⟩:=S1.out.cells)
    |(go_at_call 71;refine(hfp _ S1.out.low).mono ?_;clear hfp;rintro e w2 ⟨rfl,hb2⟩;have S2:=Lib.hid (S1.out.below hb2);clear hb2 S1 i6 c0 c1 c2 c3 c4 c5 f4 r0 r1 r2 r3 r4 r5 rf l3)
    |(go_at_call 7;refine(hbd _).mono ?_;rintro e w3 ⟨rfl,hb3⟩;have S3:=Lib.hid (((S2.out.below ((Below.refl _ _).alloc (Nat.le_refl _) _))).below hb3);clear hb3 S2;obtain⟨i6,⟨c0,c1,c2,c3,c4,c5,f4⟩,⟨⟨r0,r1,r2,r3,r4,r5⟩,rf⟩,l3⟩:=S3.out.cells))
   go_wp2_with fail
   have X1:=Zei S3.out.r (.string ⟨#[]⟩) (.int .u8 0) (.int .u8 0) (.int .u8 0) (.string ⟨#[]⟩) (.int .i64 0);refine bodyPost_ret (ZeD rfl _ _ (w.heap.size+1) _ _ _ _ (.int .i64 5) rfl rfl X1 Tryz.underlying34 rfl (by kernel_rfl)) rfl ?_;rw [←HP.out];exact⟨ZeG S3.out.low (Nat.le_succ _) _ _ _ _ _ _,5,rfl,by decide⟩
theorem ZnY (v:Int)(f:Fr)(hid:f.id.length≤100000)(A:Option Addr)(c:Nat)(ps:List Pi)(w:World)(hr:RdN 4 piL w w.heap.size A ps)(hn:ps.length≤100000)(hps:∀p∈ps,p.text.length≤100000)(hG:Grd w):
 Calls Tryz.prog 25 #[.agg #[.string (B f.id),.int .u8 f.st.toNat,.int .u8 f.fm.toNat,.int .u8 f.grp.toNat,.string (B f.body),.int .i64 f.at_,.slice A ps.length c],.int .i64 v] w (Zbm w (ZP v.toNat f ps)):=by
 unfold ZP;by_cases h0:Zd v.toNat f.id=[]
 · rw [if_pos h0];by_cases hp:ps=[]
   · rw [if_pos hp];exact Zn2 v f hid A ps.length c w h0 (by rw [hp];rfl)
   · rw [if_neg hp];exact Zn3 v f hid A ps.length c w h0 (List.length_pos_iff.2 hp)
 · rw [if_neg h0];have hv:0≤v:=by
    rcases Int.lt_or_le v 0 with h|h
    · exact absurd (Zgj v.toNat f.id (by omega)) h0
    · exact h
   obtain⟨k,rfl⟩:∃k:Nat,v=k:=⟨v.toNat,by omega⟩
   rw [Int.toNat_natCast] at h0⊢;by_cases hc:Zaj k f.id ps≠(0,0)
   · rw [if_pos hc];exact ZnZ k f hid A c ps w hr hn hps hG h0 (ZpM hc)
   · rw [if_neg hc];have hc0:Zaj k f.id ps=(0,0):=Classical.not_not.1 hc;by_cases hb:f.body≠[]∨ZJ k f.fm=true
     · rw [if_pos hb];exact Zn0 k f hid A c ps w hr hps hG h0 hc0 hb
     · rw [if_neg hb];obtain⟨h1,h2⟩:=not_or.1 hb;refine(Zn1 k f hid A c ps w hr hps hG h0 hc0 (Classical.not_not.1 h1) (by simpa using h2)).mono ?_;rintro e w' ⟨h3,h4⟩;exact⟨h4,h3⟩
theorem Zhu {v:Nat} {rev fl:UInt8} {fs:List Fr} (h:Z5 v rev fl fs=(0,0)):ZbA v rev fl=false∧(∀f∈fs,Zag v fl f=false)∧fs.length≤4096:=by
 unfold Z5 at h;cases hw:ZbA v rev fl with
 |true=>rw [hw,if_pos rfl] at h;cases h
 |false=>
  rw [hw,if_neg (by decide)] at h;cases hf:fs.findIdx? (Zag v fl) with
  |some i=>rw [hf] at h;cases h
  |none=>
   rw [hf] at h;simp only at h;refine⟨rfl,fun f hm=> ?_,?_⟩
   · have:=List.findIdx?_eq_none_iff.1 hf f hm;simpa using this
   · by_cases hl:4096<fs.length
     · rw [if_pos hl] at h;cases h
     · omega
theorem ZpN {v:Nat} {rev fl:UInt8} {fs:List Fr} (h:Z5 v rev fl fs≠(0,0)):1≤(Z5 v rev fl fs).1:=by
 unfold Z5 at h⊢;split
 · exact Nat.le_of_ble_eq_true rfl
 · split
   · exact Nat.le_of_ble_eq_true rfl
   · split
     · exact Nat.le_of_ble_eq_true rfl
     · rename_i h1 _ h2 h3
       rw [if_neg h1,h2,if_neg h3] at h;exact absurd rfl h
theorem Zj1 {v:Nat} {fl:UInt8} {f:Fr} (h:Zag v fl f=false):okF v f=true:=by
 unfold Zag at h;simp only [Bool.or_eq_false_iff,Bool.not_eq_false'] at h;exact h.1
theorem Zo3 (v:Int)(rev fl:UInt8)(A:Option Addr)(c:Nat)(fs:List Fr)(B0:Nat)(w:World)(hr:Zi frV B0 w (.slice A fs.length c) fs)(hn:fs.length≤100000)(hid:∀f∈fs,f.id.length≤1000000000)(hck:Z5 v.toNat rev fl fs≠(0,0)):
 Calls Tryz.prog 26 #[.agg #[.int .i64 v,.int .u8 rev.toNat,.int .u8 fl.toNat,.slice A fs.length c]] w (Zcn w):=by
 generalize hP:Zcn w=P at*;have ST0:Hid (CSt w ((w.alloc (.cells #[.int .i64 v,.int .u8 rev.toNat,.int .u8 fl.toNat,.slice A fs.length c] 84)).alloc (.cells #[.int .i64 0,.int .i64 0] 62)) v rev fl (.slice A fs.length c)):=Lib.hid ⟨(Bx.new w _ _).alloc _,by have:=Bx.new (w.alloc (.cells #[.int .i64 v,.int .u8 rev.toNat,.int .u8 fl.toNat,.slice A fs.length c] 84)) #[.int .i64 0,.int .i64 0] 62;rw [World.size_alloc] at this;exact this,((Below.refl _ _).alloc (Nat.le_refl _) _).alloc (by simp) _⟩;have hchk:∀wx,Below w.heap.size w wx→Calls Tryz.prog 72 #[.agg #[.int .i64 v,.int .u8 rev.toNat,.int .u8 fl.toNat,.slice A fs.length c]] wx fun e w'=>e= .returned (.agg #[.int .i64 (Z5 v.toNat rev fl fs).1,.int .i64 (Z5 v.toNat rev fl fs).2])∧Below wx.heap.size wx w':=
  fun wx hb=>ZjD v rev fl A c fs B0 wx (hr.below hb) hn hid
 have hck2:(1:Int)≤((Z5 v.toNat rev fl fs).1:Nat):=by have:=ZpN hck;omega
 generalize ((Z5 v.toNat rev fl fs).1:Int)=n at*;generalize ((Z5 v.toNat rev fl fs).2:Int)=a at*;have hbd:=fun w=>Zaq n a (by omega) w;have HP:=Lib.hid hP;have HN:=Lib.hid hck2;obtain⟨⟨c0,c1,c2,c3⟩,⟨r0,r1⟩,rf,l1,l2⟩:=ST0.out.cells;clear hr hn hid hP hck hck2;go_enter Tryz.func26,Tryz.ntmps26
 go_wp2_with (first
  |(go_at_call 72;refine(hchk _ ST0.out.low).mono ?_;clear hchk;rintro e w1 ⟨rfl,hb1⟩;have ST1:=Lib.hid (ST0.out.below hb1);clear hb1 c0 c1 c2 c3 r0 r1 rf l1 l2)
  |(go_at_call 7;refine(hbd _).mono ?_;rintro e w2 ⟨rfl,hb2⟩;have hz1:=ST1.out.res.lt;have ST2:=Lib.hid ((ST1.out.alloc _).below hb2);have C2:=Lib.hid ((Bx.new w1 #[.int .i64 n,.int .i64 a] 62).below hb2);clear hb2;obtain⟨⟨c0,c1,c2,c3⟩,⟨r0,r1⟩,rf,l1,l2⟩:=ST2.out.cells;have u0:=C2.out.cell 0;have u1:=C2.out.cell 1))
 go_region
 all_goals
  go_wp2_with fail
  have F:=ST2.out.fin (.int .i64 n) (.int .i64 a);refine bodyPost_ret (ZaT rfl _ _ (w.heap.size+1) _ _ _ _ _ rfl rfl F.1.drew Tryz.underlying62 rfl (by kernel_rfl)) rfl ?_;rw [←HP.out];exact⟨⟨n,a,rfl,HN.out⟩,Za8 F.2⟩
def Zar (w:World)(r:Option (List UInt8))(e:Ending)(w':World):Prop:=Below w.heap.size w w'∧match r with
 |some s=>e= .returned (.tuple #[.string (B s),.agg #[.int .i64 0,.int .i64 0]])
 |none=>∃n a:Int,e= .returned (.tuple #[.string ⟨#[]⟩,.agg #[.int .i64 n,.int .i64 a]])∧1≤n
theorem Zar.bad {w:World} {e:Ending} {w':World} (h:Zcn w e w'):Zar w none e w':=⟨h.2,h.1⟩
def prR (v:Int)(rev fl:UInt8)(fs:List Fr):Option (List UInt8):=if Z5 v.toNat rev fl fs≠(0,0) then none else some (ZaS ⟨v.toNat,rev,fl,fs⟩)
theorem Zo2 (v:Int)(rev fl:UInt8)(A:Option Addr)(c:Nat)(fs:List Fr)(B0:Nat)(w:World)(hr:Zi frV B0 w (.slice A fs.length c) fs)(hn:fs.length≤100000)(hid:∀f∈fs,f.id.length≤1000000000)
 (h2:v=2→∀f∈fs,(Zg 2 f).length≤16777215) (hsum:((fs.map (Zt v.toNat)).flatten).length≤130000000):
 Calls Tryz.prog 26 #[.agg #[.int .i64 v,.int .u8 rev.toNat,.int .u8 fl.toNat,.slice A fs.length c]] w (Zar w (prR v rev fl fs)):=by
 unfold prR;by_cases hc:Z5 v.toNat rev fl fs≠(0,0)
 · rw [if_pos hc];exact(Zo3 v rev fl A c fs B0 w hr hn hid hc).mono fun e w' h=>Zar.bad h
 · rw [if_neg hc];have hc0:=Classical.not_not.1 hc;obtain⟨h3,h4,_⟩:=Zhu hc0;exact(Zo4 v rev fl A c fs B0 w hr hn hid h3 hc0 (fun f hf=>Zj1 (h4 f hf)) h2 hsum).mono fun e w' h=>⟨h.2,h.1⟩
theorem Zra (l:List UInt8):Lib.hasPrefix l [73,68,51]=decide (l.take 3=ZB):=by
 match l with
 |[]=>rfl
 |[x]=>exact(Bool.and_false _).trans (decide_eq_false (by unfold ZB;intro h;cases h)).symm
 |[x,y]=>exact((congrArg (73==x&& ·) (Bool.and_false (68==y))).trans (Bool.and_false _)).trans (decide_eq_false (by unfold ZB;intro h;cases h)).symm
 |x::y::z::r=>
  show((73:UInt8)==x&&((68:UInt8)==y&&((51:UInt8)==z&&true)))=decide ([x,y,z]=[73,68,51])
  rw [Bool.eq_iff_iff,decide_eq_true_iff,Bool.and_true,Bool.and_eq_true,Bool.and_eq_true,beq_iff_eq,beq_iff_eq,beq_iff_eq,List.cons.injEq,List.cons.injEq,List.cons.injEq];exact⟨fun⟨a,b,c⟩=>⟨a.symm,b.symm,c.symm,rfl⟩,fun⟨a,b,c,_⟩=>⟨a.symm,b.symm,c.symm⟩⟩
structure PzSt (w wx:World)(T:Array Value):Prop where
 t:Bx wx w.heap.size T 59
 f:Bx wx (w.heap.size+1) #[.int .i64 0,.int .i64 0] 62
 low:Below w.heap.size w wx
theorem PzSt.new (w:World)(T:Array Value):PzSt w ((w.alloc (.cells T 59)).alloc (.cells #[.int .i64 0,.int .i64 0] 62)) T:=
 ⟨(Bx.new w _ _).alloc _,by have:=Bx.new (w.alloc (.cells T 59)) #[.int .i64 0,.int .i64 0] 62;rw [World.size_alloc] at this;exact this,((Below.refl _ _).alloc (Nat.le_refl _) _).alloc (by simp) _⟩
theorem PzSt.cells {w wx:World} {T:Array Value} {a1 a2 a3 a4 a5:Value} (h:PzSt w wx T)(h1:T[1]? =some a1)(h2:T[2]? =some a2)(h3:T[3]? =some a3)(h4:T[4]? =some a4)(h5:T[5]? =some a5):
 (wx.cell? ⟨w.heap.size,1,none⟩=some a1∧wx.cell? ⟨w.heap.size,2,none⟩=some a2∧wx.cell? ⟨w.heap.size,3,none⟩=some a3∧wx.cell? ⟨w.heap.size,4,none⟩=some a4∧wx.cell? ⟨w.heap.size,5,none⟩=some a5)∧
 (wx.cell? ⟨w.heap.size+1,0,none⟩=some (.int .i64 0)∧wx.cell? ⟨w.heap.size+1,1,none⟩=some (.int .i64 0)∧wx.frozen? ⟨w.heap.size+1,0,none⟩=false∧wx.frozen? ⟨w.heap.size+1,1,none⟩=false)∧w.heap.size+1<wx.heap.size:=
 ⟨⟨by rw [h.t.cell 1];exact h1,by rw [h.t.cell 2];exact h2,by rw [h.t.cell 3];exact h3,by rw [h.t.cell 4];exact h4,by rw [h.t.cell 5];exact h5⟩,⟨h.f.cell 0,h.f.cell 1,h.f.free 0,h.f.free 1⟩,h.f.lt⟩
theorem Zdr (w:World)(T:Array Value)(x y:Value):Bx ((w.alloc (.cells T 59)).alloc (.cells #[x,y] 62)) (w.heap.size+1) #[x,y] 62∧Below w.heap.size w ((w.alloc (.cells T 59)).alloc (.cells #[x,y] 62)):=
 ⟨by have:=Bx.new (w.alloc (.cells T 59)) #[x,y] 62;rw [World.size_alloc] at this;exact this,((Below.refl _ _).alloc (Nat.le_refl _) _).alloc (by simp) _⟩
theorem Zoz (rev fl:UInt8)(A:Option Addr)(n c:Nat)(sound:List UInt8)(w:World)(T:Array Value)
 (h1:T[1]? =some (.int .i64 0)) (h2:T[2]? =some (.int .u8 rev.toNat)) (h3:T[3]? =some (.int .u8 fl.toNat)) (h4:T[4]? =some (.slice A n c)) (h5:T[5]? =some (.string (B sound))) (hn:0<n):
 Calls Tryz.prog 14 #[.agg T] w (Zar w none):=by
 have hn':(0:Int)<n:=by omega
 have S0:=Lib.hid (PzSt.new w T);obtain⟨⟨c1,c2,c3,c4,c5⟩,⟨r0,r1,r2,r3⟩,l1⟩:=S0.out.cells h1 h2 h3 h4 h5;clear h1 h2 h3 h4 h5;go_enter Tryz.func14,Tryz.ntmps14
 go_wp2_with fail
 refine bodyPost_ret (ZaT rfl _ _ (w.heap.size+1) _ _ _ _ _ rfl rfl (Zdr w T (.int .i64 5) (.int .i64 0)).1 Tryz.underlying62 rfl (by kernel_rfl)) rfl ⟨(Zdr w T (.int .i64 5) (.int .i64 0)).2,5,0,rfl,by decide⟩
theorem Zoy (rev fl:UInt8)(A:Option Addr)(c:Nat)(sound:List UInt8)(w:World)(T:Array Value)
 (h1:T[1]? =some (.int .i64 0)) (h2:T[2]? =some (.int .u8 rev.toNat)) (h3:T[3]? =some (.int .u8 fl.toNat)) (h4:T[4]? =some (.slice A 0 c)) (h5:T[5]? =some (.string (B sound))) (hn:rev≠0∨fl≠0):
 Calls Tryz.prog 14 #[.agg T] w (Zar w none):=by
 obtain⟨r,f,e1,e2,hrf⟩:∃r f:Nat,rev.toNat=r∧fl.toNat=f∧(r≠0∨f≠0):=⟨_,_,rfl,rfl,hn.imp (fun h e=>h (UInt8.toNat_inj.1 e)) (fun h e=>h (UInt8.toNat_inj.1 e))⟩
 rw [e1] at h2;rw [e2] at h3;have HH:=Lib.hid hrf;clear e1 e2 hn hrf;have S0:=Lib.hid (PzSt.new w T);obtain⟨⟨c1,c2,c3,c4,c5⟩,⟨r0,r1,r2,r3⟩,l1⟩:=S0.out.cells h1 h2 h3 h4 h5;clear h1 h2 h3 h4 h5;go_enter Tryz.func14,Tryz.ntmps14
 go_wp2_with fail
 all_goals first
  |exact absurd HH.out (by omega)
  |refine bodyPost_ret (ZaT rfl _ _ (w.heap.size+1) _ _ _ _ _ rfl rfl (Zdr w T (.int .i64 5) (.int .i64 0)).1 Tryz.underlying62 rfl (by kernel_rfl)) rfl ⟨(Zdr w T (.int .i64 5) (.int .i64 0)).2,5,0,rfl,by decide⟩
theorem ZoB (A:Option Addr)(c:Nat)(sound:List UInt8)(hs:sound.length≤1000000000)(w:World)(T:Array Value)
 (h1:T[1]? =some (.int .i64 0)) (h2:T[2]? =some (.int .u8 (0:UInt8).toNat)) (h3:T[3]? =some (.int .u8 (0:UInt8).toNat)) (h4:T[4]? =some (.slice A 0 c)) (h5:T[5]? =some (.string (B sound))):
 Calls Tryz.prog 14 #[.agg T] w (Zar w (if sound.take 3=ZB then none else some sound)):=by
 have S0:=Lib.hid (PzSt.new w T);obtain⟨⟨c1,c2,c3,c4,c5⟩,⟨r0,r1,r2,r3⟩,l1⟩:=S0.out.cells h1 h2 h3 h4 h5;clear h1 h2 h3 h4 h5;have hpx:∀wx,Calls Tryz.prog 24 #[.string (B sound),.string ⟨#[73,68,51]⟩] wx fun e w'=>e= .returned (.bool (decide (sound.take 3=ZB)))∧wx=w':=by
  intro wx;have hp:=Zra sound;exact(Tryz.strings_HasPrefix (B sound) _ wx).mono fun e w' h=>⟨by rw [h.1,ZaA,←hp],h.2.symm⟩
 have hszs:=Zl sound;by_cases hp:sound.take 3=ZB
 · rw [decide_eq_true hp] at hpx;rw [if_pos hp];clear hp;go_enter Tryz.func14,Tryz.ntmps14
   go_wp2_with (go_at_call 24;refine(hpx _).mono ?_;clear hpx;rintro e w1 ⟨rfl,rfl⟩)
   refine bodyPost_ret (ZaT rfl _ _ (w.heap.size+1) _ _ _ _ _ rfl rfl (Zdr w T (.int .i64 5) (.int .i64 0)).1 Tryz.underlying62 rfl (by kernel_rfl)) rfl ⟨(Zdr w T (.int .i64 5) (.int .i64 0)).2,5,0,rfl,by decide⟩
 · rw [decide_eq_false hp] at hpx;rw [if_neg hp];clear hp;go_enter Tryz.func14,Tryz.ntmps14
   go_wp2_with (go_at_call 24;refine(hpx _).mono ?_;clear hpx;rintro e w1 ⟨rfl,rfl⟩)
   refine bodyPost_ret (ZaT rfl _ _ (w.heap.size+1) _ _ _ _ _ rfl rfl (Zdr w T (.int .i64 0) (.int .i64 0)).1 Tryz.underlying62 rfl (by kernel_rfl)) rfl ⟨(Zdr w T (.int .i64 0) (.int .i64 0)).2,rfl⟩
end Go.Proofs.YtecandjkbbpooaaGreatDoor
