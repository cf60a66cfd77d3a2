/- TopBlocksCardSaid: TopBlocks returns true, as its card says. Conditions: those of the card (the package variables as laid). -/
import Derived.Test.YtlglfmbccihopaaGreatDoorM47
import Derived.Test.YtlglfmbccihopaaGreatDoorM49
set_option linter.unusedVariables false
set_option linter.unusedSimpArgs false
set_option maxRecDepth 100000
set_option maxHeartbeats 40000000
namespace Go.Proofs.YtlglfmbccihopaaGreatDoor
open Go Go.Proofs Go.ChangeShapes Go.WideShapes Go.ChangeAt Go.RowKit
theorem Zth {w:World} (h:Lib.VarReads Tryz.prog w "diacritic/sniff.starts" Rows.laid_diacritic_sniff_starts):ZgP w:=by
 obtain⟨m,h1,hm⟩:=Ev.starts_reads h;subst hm;intro j u hu;rw [Nat.zero_add];exact h1 j u hu
theorem Zpp (ms:List Mx)(v:List UInt8)(vs:Int)(ns:List Nx)(at_:Int)(sound:List UInt8)(A AN:Option Addr)(c cN:Nat)(kd fb bud:Int)(det:Bool)(hm:ms.length≤maxLen)(hn:ns.length≤maxLen)(w:World)(h:RdN 2 mxV w w.heap.size A ms)(h2:RdN 3 nxV w w.heap.size AN ns)(hT:Zh w)(hD:DB w)(hM:ML w)(hv:Lib.VarReads Tryz.prog w "diacritic/sniff.starts" Rows.laid_diacritic_sniff_starts):
 Calls Tryz.prog 3 #[.agg #[.slice A ms.length c,.string (B v),.int .i64 vs,.slice AN ns.length cN,.int .i64 at_,.string (B sound)],.agg #[.int .i64 kd,.int .i64 fb,.bool det,.int .i64 bud]] w fun e w'=>e= .returned (.bool true)∧Below w.heap.size w w':=by
 have e:maxLen≤9223372036854775807:=by decide
 exact Zpo ms v vs ns at_ sound A AN c cN kd fb bud det (Nat.le_trans hm e) (Nat.le_trans hn e) w (Ev.gl_of hT hD hM hv) ⟨⟨hT,hD,hM⟩,Zth hv⟩ h h2
theorem ZtF (os:Os){H:Type} (enc:TypeId×Value→H):∃places,DataW.whole enc Tryz.prog ((World.laidAll Tryz.prog os Rows.topBlocksRow.laid).forCall (fun _ _=>0) ⟨#[],#[.agg #[.slice none 0 0,.string ⟨#[]⟩,.int .i64 0,.slice none 0 0,.int .i64 0,.string ⟨#[]⟩],.agg #[.int .i64 0,.int .i64 0,.bool false,.int .i64 0]],[]⟩).memory Tryz.f3.params.toList Rows.topBlocksSpec.vars false #[(.agg #[.slice none 0 0,.string ⟨#[]⟩,.int .i64 0,.slice none 0 0,.int .i64 0,.string ⟨#[]⟩]:Value),(.agg #[.int .i64 0,.int .i64 0,.bool false,.int .i64 0]:Value)].toList 8=some ([.agg [.nil,.agg [.agg [.lit (.string []),.lit (.int .i64 0)],.nil],.lit (.int .i64 0),.lit (.string [])],.agg [.lit (.int .i64 0),.lit (.int .i64 0),.lit (.bool false),.lit (.int .i64 0)]],[],places):=
 ⟨[],by kernel_rfl⟩
theorem ZtD (os:Os):laidMetH Tryz.prog Rows.topBlocksRow.laid ((World.laidAll Tryz.prog os Rows.topBlocksRow.laid).forCall (fun _ _=>0) ⟨#[],#[.agg #[.slice none 0 0,.string ⟨#[]⟩,.int .i64 0,.slice none 0 0,.int .i64 0,.string ⟨#[]⟩],.agg #[.int .i64 0,.int .i64 0,.bool false,.int .i64 0]],[]⟩).memory:=by
 rw [MakeChecks.laidMetH_plain _ _ _ (by kernel_rfl)];exact laidMet_laidAll _ (by kernel_rfl) (by kernel_rfl)
theorem ZtH (os:Os){H:Type} (enc:TypeId×Value→H):
 ∃(w:World) (tape:Tape) (i:Input),w.os=os∧(w.forCall tape i).Shaped Tryz.checked.prog∧i.vars=[]∧Input.okWide Tryz.checked.prog (w.forCall tape i) .any w.heap.size 3 i∧
  (OpenSpec.ofChange Rows.topBlocksSpec).preRow enc Tryz.checked.prog Tryz.f3 Rows.topBlocksRow.domain false Rows.topBlocksRow.laid (w.forCall tape i).memory i.args∧({}:Assume).holds Tryz.checked.prog (lone (Frame.enter Tryz.checked.prog 3 i.args .normal) [] (w.forCall tape i)):=by
 obtain⟨places,hx⟩:=ZtF os enc;exact witness_row_atRef (enc:=enc) (C:=Tryz.checked) false (World.laidAll Tryz.prog os Rows.topBlocksRow.laid) #[.agg #[.slice none 0 0,.string ⟨#[]⟩,.int .i64 0,.slice none 0 0,.int .i64 0,.string ⟨#[]⟩],.agg #[.int .i64 0,.int .i64 0,.bool false,.int .i64 0]] (World.laidAll_os _ _ _) (by kernel_rfl) (by kernel_rfl) (by kernel_rfl)
  (OpenSpec.preRow_of_cond 8 hx (by kernel_rfl) (fun k hk=>by cases hk) (by kernel_rfl) (ZtD os))
theorem ZtC (os:Os)(started:os.Started)(H:Type)(enc:TypeId×Value→H)(F:Stop.Interp):
 ReturnsInHanded {} Tryz.checked os 3 .any ((OpenSpec.ofChange Rows.topBlocksSpec).preRow enc Tryz.prog Tryz.f3 Rows.topBlocksRow.domain false Rows.topBlocksRow.laid) (((OpenSpec.ofChange Rows.topBlocksSpec).at F).post enc Tryz.prog Tryz.f3 false true false false):=by
 refine returnsInHanded_of_row (C:=Tryz.checked) (s:=OpenSpec.ofChange Rows.topBlocksSpec) Zr9 started (by kernel_rfl) Tryz.func3 (ZtH os enc) ?_;intro W base args ds gs before hval0 hW hq1 hq2 hcond hL0 hsh hq4;have hL:laidMetH Tryz.prog Rows.topBlocksRow.laid W:=hL0;have hT:Zh W:=Ztr hL (by kernel_rfl) (by simp [Rows.topBlocksRow]) (by simp [Rows.topBlocksRow]);have hS:Lib.VarReads Tryz.prog W "diacritic/sniff.starts" Rows.laid_diacritic_sniff_starts:=by
  have h:=hL;rw [MakeChecks.laidMetH_plain _ _ _ (by kernel_rfl)] at h;exact Lib.laidMet.reads h (by simp [Rows.topBlocksRow])
 have hD:DB W:=Zqe hL (by kernel_rfl) (by simp [Rows.topBlocksRow]);have hM:ML W:=Tryz.laysM143.s1_3 W hsh;clear hL0 hL;have hval:∀(j:Nat) t v,Tryz.f3.params[j]? =some t→args[j]? =some v→Value.okWide Tryz.prog W .any base t v:=hval0;have hW':DataW.Whole enc Tryz.prog Tryz.f3.params.toList Rows.topBlocksSpec.vars false W args.toList ds gs before:=hW;obtain⟨p,q,hA0,hV,rfl,hfz,hnd⟩:=hW;have hA:DataW.TrodAll enc Tryz.prog W 0 (fun _=>true) true Tryz.f3.params.toList args.toList ds p:=hA0;rw [Tryz.params3] at hA hval;obtain⟨v0,v1,d0,d1,p0,p1,rfl,rfl,rfl,h0,h1⟩:=trodAll_two hA;obtain⟨rfl,rfl⟩:=trodVars_none hV;clear hA0 hval0;have fin:∀W',Below W.heap.size W W'→∃v,Ending.returned (.bool true)= .returned v∧((OpenSpec.ofChange Rows.topBlocksSpec).at F).post enc Tryz.prog Tryz.f3 false true false false W _ v W':=
  fun W' hb=>⟨_,rfl,Zsk Zrm rfl (by kernel_rfl) (by kernel_rfl) Tryz.underlying4 hW' rfl hb⟩
 clear hW' hfz hnd;obtain⟨cs0,rfl,_⟩:=okWide_struct Tryz.underlying30 (hval 0 30 v0 rfl rfl);obtain⟨cs1,rfl,_⟩:=okWide_struct Tryz.underlying33 (hval 1 33 v1 rfl rfl);obtain⟨k0,f0⟩:=h0;obtain⟨k1,f1⟩:=h1;obtain⟨ms,v,vs,ns,at_,sound,A,AN,c,cN,e0,hm,hn,hR,hN⟩:=ZrZ f0;obtain⟨kd,fb,bud,det,e1⟩:=Zr2 f1;obtain rfl:cs0=#[.slice A ms.length c,.string (B v),.int .i64 vs,.slice AN ns.length cN,.int .i64 at_,.string (B sound)]:=by
  have e:cs0.toList=_:=e0;cases cs0
  simp only at e;rw [e]
 obtain rfl:cs1=#[.int .i64 kd,.int .i64 fb,.bool det,.int .i64 bud]:=by
  have e:cs1.toList=_:=e1;cases cs1
  simp only at e;rw [e]
 refine(Zpp ms v vs ns at_ sound A AN c cN kd fb bud det hm hn W hR hN hT hD hM hS).mono ?_;rintro e W' ⟨rfl,hb⟩;exact fin W' hb
theorem ZtG:Rows.TopBlocksSaid:=
 OpenClaim.holds_of_cond 3 Tryz.f3 rfl rfl rfl rfl rfl rfl rfl ⟨rfl,rfl,rfl,rfl,rfl⟩ rfl rfl rfl rfl rfl (by as_aux_lemma=>kernel_rfl) Tryz.func3 ZtA
  (by as_aux_lemma=>exact of_decide_eq_true (by kernel_rfl)) (by as_aux_lemma=>unfold Func.isWrapper;first|(rw [if_pos (by decide+kernel)];kernel_rfl)|(rw [if_neg (by decide+kernel)];exact⟨rfl,rfl⟩))
  (fun os started H enc _ F=>by rw [OpenClaim.pre_eq_preRow];exact ZtC os started H enc F)
theorem ZtE (f:FuncId)(fn:Func)(hf:Tryz.pinned.checked.prog.funcNamed "diacritic/diacritictop.TopBlocks" =some f)(hfn:Tryz.pinned.checked.prog.funcs[f]? =some fn):
 false=Tryz.pinned.checked.prog.looks []∧∀(j:Nat) t,fn.params[j]? =some t→Tryz.pinned.checked.prog.wantsStandIn t=false:=by
 obtain rfl:f=3:=Option.some.inj ((show Tryz.prog.funcNamed "diacritic/diacritictop.TopBlocks" =some 3 by kernel_rfl).symm.trans hf)|>.symm
 obtain rfl:fn=Tryz.f3:=(Option.some.inj (Tryz.func3.symm.trans hfn)).symm;refine⟨by kernel_rfl,fun j t ht=> ?_⟩;rw [Tryz.params3] at ht;have hm:t∈[30,33]:=by simpa using Array.mem_of_getElem? ht
 have hall:([30,33].all fun u=> !Tryz.prog.wantsStandIn u)=true:=by kernel_rfl
 exact(show Tryz.prog.wantsStandIn t=false by simpa using List.all_eq_true.1 hall t hm)
theorem ZtB:false=Rows.topBlocksRow.goesBy Tryz.pinned.checked.prog:=by
 show false=(Tryz.prog.goesFrom Rows.topBlocksRow.func||false)
 rw [←Zq3 _ _ Zq2];rfl
theorem topBlocks_card:Rows.TopBlocksCardSaid:=
 Claim7.holds_tied_plain_at .later [] _ _ _ _ ZtG (fun _ h=>by cases h) (by as_aux_lemma=>kernel_rfl) (fun _ h=>by cases h) topBlocks_row_tie rfl ⟨rfl,rfl⟩ (by as_aux_lemma=>kernel_rfl) rfl ZtE ZtB
end Go.Proofs.YtlglfmbccihopaaGreatDoor
