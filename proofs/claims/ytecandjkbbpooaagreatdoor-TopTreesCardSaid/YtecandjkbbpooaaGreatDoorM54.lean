/- TopTreesCardSaid: TopTrees returns true, as its card says. Conditions: those of the card (the package variables as laid). -/
import Derived.Test.YtecandjkbbpooaaGreatDoorM52
import Derived.Test.YtecandjkbbpooaaGreatDoorM53
set_option linter.unusedVariables false
set_option linter.unusedSimpArgs false
set_option maxRecDepth 100000
set_option maxHeartbeats 40000000
namespace Go.Proofs.YtecandjkbbpooaaGreatDoor
open Go Go.Proofs Go.ChangeShapes Go.WideShapes Go.ChangeAt Go.RowKit
theorem Ztr {w:World} (h:Lib.VarReads Tryz.prog w "diacritic/sniff.starts" Rows.laid_diacritic_sniff_starts):ZjC w:=by
 obtain⟨m,h1,hm⟩:=Ev.starts_reads h;subst hm;intro j u hu;rw [Nat.zero_add];exact h1 j u hu
theorem Zpa (v:Int)(rev fl:UInt8)(xs:List (It×Value))(A:Option Addr)(c:Nat)(sound:ByteArray)(kd fb bud:Int)(det:Bool)(w:World)(hr:RdN 7 itV w w.heap.size A xs)(hps:∀x∈xs,∃A c,x.2= .slice A x.1.ps.length c∧RdN 4 piL w w.heap.size A x.1.ps)(hxl:xs.length≤maxLen)(hsl:sound.size≤maxLen)(hT:Zk w)(hD:DB w)(hM:ML w)(hv:Lib.VarReads Tryz.prog w "diacritic/sniff.starts" Rows.laid_diacritic_sniff_starts):
 Calls Tryz.prog 3 #[.agg #[.int .i64 v,.int .u8 rev.toNat,.int .u8 fl.toNat],.slice A xs.length c,.string sound,.agg #[.int .i64 kd,.int .i64 fb,.bool det,.int .i64 bud]] w fun e w'=>e= .returned (.bool true)∧Below w.heap.size w w':=by
 have e:maxLen≤9223372036854775807:=by decide
 rw [Zd6 sound];have hl:sound.data.toList.length=sound.size:=by rw [Array.length_toList];rfl
 exact Zo9 v rev fl xs A c sound.data.toList kd fb bud det w (Ev.gl_of hT hD hM hv) ⟨⟨hT,hD,hM⟩,Ztr hv⟩ hr hps (Nat.le_trans hxl e) (by rw [hl];exact Nat.le_trans hsl e)
theorem ZtS (os:Os){H:Type} (enc:TypeId×Value→H):∃places,DataW.whole enc Tryz.prog ((World.laidAll Tryz.prog os Rows.topTreesRow.laid).forCall (fun _ _=>0) ⟨#[],#[.agg #[.int .i64 0,.int .u8 0,.int .u8 0],.slice none 0 0,.string ⟨#[]⟩,.agg #[.int .i64 0,.int .i64 0,.bool false,.int .i64 0]],[]⟩).memory Tryz.f3.params.toList Rows.topTreesSpec.vars false #[(.agg #[.int .i64 0,.int .u8 0,.int .u8 0]:Value),(.slice none 0 0:Value),(.string ⟨#[]⟩:Value),(.agg #[.int .i64 0,.int .i64 0,.bool false,.int .i64 0]:Value)].toList 8=some ([.agg [.lit (.int .i64 0),.lit (.int .u8 0),.lit (.int .u8 0)],.nil,.lit (.string []),.agg [.lit (.int .i64 0),.lit (.int .i64 0),.lit (.bool false),.lit (.int .i64 0)]],[],places):=
 ⟨[],by kernel_rfl⟩
theorem ZtQ (os:Os):laidMetH Tryz.prog Rows.topTreesRow.laid ((World.laidAll Tryz.prog os Rows.topTreesRow.laid).forCall (fun _ _=>0) ⟨#[],#[.agg #[.int .i64 0,.int .u8 0,.int .u8 0],.slice none 0 0,.string ⟨#[]⟩,.agg #[.int .i64 0,.int .i64 0,.bool false,.int .i64 0]],[]⟩).memory:=by
 rw [MakeChecks.laidMetH_plain _ _ _ (by kernel_rfl)];exact laidMet_laidAll _ (by kernel_rfl) (by kernel_rfl)
theorem ZtU (os:Os){H:Type} (enc:TypeId×Value→H):
 ∃(w:World) (tape:Tape) (i:Input),w.os=os∧(w.forCall tape i).Shaped Tryz.checked.prog∧i.vars=[]∧Input.okWide Tryz.checked.prog (w.forCall tape i) .any w.heap.size 3 i∧
  (OpenSpec.ofChange Rows.topTreesSpec).preRow enc Tryz.checked.prog Tryz.f3 Rows.topTreesRow.domain false Rows.topTreesRow.laid (w.forCall tape i).memory i.args∧({}:Assume).holds Tryz.checked.prog (lone (Frame.enter Tryz.checked.prog 3 i.args .normal) [] (w.forCall tape i)):=by
 obtain⟨places,hx⟩:=ZtS os enc;exact witness_row_atRef (enc:=enc) (C:=Tryz.checked) false (World.laidAll Tryz.prog os Rows.topTreesRow.laid) #[.agg #[.int .i64 0,.int .u8 0,.int .u8 0],.slice none 0 0,.string ⟨#[]⟩,.agg #[.int .i64 0,.int .i64 0,.bool false,.int .i64 0]] (World.laidAll_os _ _ _) (by kernel_rfl) (by kernel_rfl) (by kernel_rfl)
  (OpenSpec.preRow_of_cond 8 hx (by kernel_rfl) (fun k hk=>by cases hk) (by kernel_rfl) (ZtQ os))
theorem ZtP (os:Os)(started:os.Started)(H:Type)(enc:TypeId×Value→H)(F:Stop.Interp):
 ReturnsInHanded {} Tryz.checked os 3 .any ((OpenSpec.ofChange Rows.topTreesSpec).preRow enc Tryz.prog Tryz.f3 Rows.topTreesRow.domain false Rows.topTreesRow.laid) (((OpenSpec.ofChange Rows.topTreesSpec).at F).post enc Tryz.prog Tryz.f3 false true false false):=by
 refine returnsInHanded_of_row (C:=Tryz.checked) (s:=OpenSpec.ofChange Rows.topTreesSpec) Zsk started (by kernel_rfl) Tryz.func3 (ZtU os enc) ?_;intro W base args ds gs before hval0 hW hq1 hq2 hcond hL0 hsh hq4;have hL:laidMetH Tryz.prog Rows.topTreesRow.laid W:=hL0;have hT:Zk W:=ZtD hL (by kernel_rfl) (by simp [Rows.topTreesRow]) (by simp [Rows.topTreesRow]);have hS:Lib.VarReads Tryz.prog W "diacritic/sniff.starts" Rows.laid_diacritic_sniff_starts:=by
  have h:=hL;rw [MakeChecks.laidMetH_plain _ _ _ (by kernel_rfl)] at h;exact Lib.laidMet.reads h (by simp [Rows.topTreesRow])
 have hD:DB W:=Zp6 hL (by kernel_rfl) (by simp [Rows.topTreesRow]);have hM:ML W:=Tryz.laysM143.s1_3 W hsh;clear hL0 hL;have hval:∀(j:Nat) t v,Tryz.f3.params[j]? =some t→args[j]? =some v→Value.okWide Tryz.prog W .any base t v:=hval0;have hW':DataW.Whole enc Tryz.prog Tryz.f3.params.toList Rows.topTreesSpec.vars false W args.toList ds gs before:=hW;obtain⟨p,q,hA0,hV,rfl,hfz,hnd⟩:=hW;have hA:DataW.TrodAll enc Tryz.prog W 0 (fun _=>true) true Tryz.f3.params.toList args.toList ds p:=hA0;rw [Tryz.params3] at hA hval;have hA1:=hA;obtain⟨v0,vs0,d0,ds0,p0,q0,e0,rfl,rfl,h0,hr1⟩:=trodAll_cons hA1
 try subst e0
 obtain⟨v1,vs1,d1,ds1,p1,q1,e1,rfl,rfl,h1,hr2⟩:=trodAll_cons hr1
 try subst e1
 obtain⟨v2,vs2,d2,ds2,p2,q2,e2,rfl,rfl,h2,hr3⟩:=trodAll_cons hr2
 try subst e2
 obtain⟨v3,vs3,d3,ds3,p3,q3,e3,rfl,rfl,h3,hr4⟩:=trodAll_cons hr3
 try subst e3
 obtain⟨rfl,rfl,rfl⟩:=trodAll_nil hr4;obtain rfl:args=#[v0,v1,v2,v3]:=by cases args;simp_all
 obtain⟨rfl,rfl⟩:=trodVars_none hV;clear hA0 hval0;have fin:∀W',Below W.heap.size W W'→∃v,Ending.returned (.bool true)= .returned v∧((OpenSpec.ofChange Rows.topTreesSpec).at F).post enc Tryz.prog Tryz.f3 false true false false W _ v W':=
  fun W' hb=>⟨_,rfl,ZsB Zrw rfl (by kernel_rfl) (by kernel_rfl) Tryz.underlying4 hW' rfl hb⟩
 clear hW' hfz hnd;obtain⟨cs0,rfl,_⟩:=okWide_struct Tryz.underlying23 (hval 0 23 v0 rfl rfl);obtain⟨a1,l1,c1,rfl⟩:=okWide_slice Tryz.underlying24 (hval 1 24 v1 rfl rfl);obtain⟨s2,rfl,rfl,rfl,hs2⟩:=Go.ChangeMaps.open_string Tryz.underlying9 (hval 2 9 v2 rfl rfl) h2;obtain⟨cs3,rfl,_⟩:=okWide_struct Tryz.underlying28 (hval 3 28 v3 rfl rfl);obtain⟨k0,f0⟩:=h0;obtain⟨k1,f1⟩:=h1;obtain⟨k3,f3⟩:=h3;obtain⟨v,rev,fl,e0⟩:=Zr9 f0;obtain⟨A,c,xs,e1,hxl,hR,hP⟩:=Zsa f1;obtain⟨kd,fb,bud,det,e3⟩:=Zsb f3;obtain rfl:cs0=#[.int .i64 v,.int .u8 rev.toNat,.int .u8 fl.toNat]:=by
  have e:cs0.toList=_:=e0;cases cs0
  simp only at e;rw [e]
 simp [Value.cells] at e1;obtain⟨rfl,rfl,rfl⟩:=e1;obtain rfl:cs3=#[.int .i64 kd,.int .i64 fb,.bool det,.int .i64 bud]:=by
  have e:cs3.toList=_:=e3;cases cs3
  simp only at e;rw [e]
 refine(Zpa v rev fl xs _ _ s2 kd fb bud det W hR hP hxl hs2 hT hD hM hS).mono ?_;rintro e W' ⟨rfl,hb⟩;exact fin W' hb
theorem ZtT:Rows.TopTreesSaid:=
 OpenClaim.holds_of_cond 3 Tryz.f3 rfl rfl rfl rfl rfl rfl rfl ⟨rfl,rfl,rfl,rfl,rfl⟩ rfl rfl rfl rfl rfl (by as_aux_lemma=>kernel_rfl) Tryz.func3 ZtN
  (by as_aux_lemma=>exact of_decide_eq_true (by kernel_rfl)) (by as_aux_lemma=>unfold Func.isWrapper;first|(rw [if_pos (by decide+kernel)];kernel_rfl)|(rw [if_neg (by decide+kernel)];exact⟨rfl,rfl⟩))
  (fun os started H enc _ F=>by rw [OpenClaim.pre_eq_preRow];exact ZtP os started H enc F)
theorem ZtR (f:FuncId)(fn:Func)(hf:Tryz.pinned.checked.prog.funcNamed "diacritic/diacritictop.TopTrees" =some f)(hfn:Tryz.pinned.checked.prog.funcs[f]? =some fn):
 false=Tryz.pinned.checked.prog.looks []∧∀(j:Nat) t,fn.params[j]? =some t→Tryz.pinned.checked.prog.wantsStandIn t=false:=by
 obtain rfl:f=3:=Option.some.inj ((show Tryz.prog.funcNamed "diacritic/diacritictop.TopTrees" =some 3 by kernel_rfl).symm.trans hf)|>.symm
 obtain rfl:fn=Tryz.f3:=(Option.some.inj (Tryz.func3.symm.trans hfn)).symm;refine⟨by kernel_rfl,fun j t ht=> ?_⟩;rw [Tryz.params3] at ht;have hm:t∈[23,24,9,28]:=by simpa using Array.mem_of_getElem? ht
 have hall:([23,24,9,28].all fun u=> !Tryz.prog.wantsStandIn u)=true:=by kernel_rfl
 exact(show Tryz.prog.wantsStandIn t=false by simpa using List.all_eq_true.1 hall t hm)
theorem ZtO:false=Rows.topTreesRow.goesBy Tryz.pinned.checked.prog:=by
 show false=(Tryz.prog.goesFrom Rows.topTreesRow.func||false)
 rw [←Zq3 _ _ Zq2];rfl
theorem topTrees_card:Rows.TopTreesCardSaid:=
 Claim7.holds_tied_plain_at .later [] _ _ _ _ ZtT (fun _ h=>by cases h) (by as_aux_lemma=>kernel_rfl) (fun _ h=>by cases h) topTrees_row_tie rfl ⟨rfl,rfl⟩ (by as_aux_lemma=>kernel_rfl) rfl ZtR ZtO
end Go.Proofs.YtecandjkbbpooaaGreatDoor
