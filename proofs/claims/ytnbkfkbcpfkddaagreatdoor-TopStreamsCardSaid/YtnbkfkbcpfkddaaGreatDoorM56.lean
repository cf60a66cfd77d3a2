/- TopStreamsCardSaid: TopStreams returns true, as its card says. Conditions: those of the card (the package variables as laid). -/
import Derived.Test.YtnbkfkbcpfkddaaGreatDoorM53
import Derived.Test.YtnbkfkbcpfkddaaGreatDoorM55
set_option linter.unusedVariables false
set_option linter.unusedSimpArgs false
set_option maxRecDepth 100000
set_option maxHeartbeats 40000000
namespace Go.Proofs.YtnbkfkbcpfkddaaGreatDoor
open Go Go.Proofs Go.ChangeShapes Go.WideShapes Go.ChangeAt Go.RowKit
theorem Zqr {w:World} (h:Lib.VarReads Tryz.prog w "diacritic/sniff.starts" Rows.laid_diacritic_sniff_starts):ZfO w:=by
 obtain⟨m,h1,hm⟩:=Ev.starts_reads h;subst hm;intro j u hu;rw [Nat.zero_add];exact h1 j u hu
theorem ZmV (y:Sx)(hy:SxTy y)(vs:Int)(A AN:Option Addr)(c cN:Nat)(kd fb bud:Int)(det:Bool)(hm:y.sound.length≤maxLen)(hn:y.ns.length≤maxLen)(w:World)(h:RdN 6 pgL w w.heap.size A y.sound)(h2:RdN 3 nxV w w.heap.size AN y.ns)(hT:Zj w)(hD:DB w)(hM:ML w)(hv:Lib.VarReads Tryz.prog w "diacritic/sniff.starts" Rows.laid_diacritic_sniff_starts):
 Calls Tryz.prog 3 #[.agg (stV y.first y.v vs (.slice AN y.ns.length cN) y.setup (.slice A y.sound.length c)),.agg #[.int .i64 kd,.int .i64 fb,.bool det,.int .i64 bud]] w fun e w'=>e= .returned (.bool true)∧Below w.heap.size w w':=by
 have e:maxLen≤9223372036854775807:=by decide
 exact ZmU y hy vs A AN c cN kd fb bud det (Nat.le_trans hm e) (Nat.le_trans hn e) w (Ev.gl_of hT hD hM hv) ⟨⟨hT,hD,hM⟩,Zqr hv⟩ h h2
theorem ZqS (os:Os){H:Type} (enc:TypeId×Value→H):∃places,DataW.whole enc Tryz.prog ((World.laidAll Tryz.prog os Rows.topStreamsRow.laid).forCall (fun _ _=>0) ⟨#[],#[.agg #[.int .u8 0,.int .u64 0,.int .u32 0,.int .u32 0,.string ⟨#[]⟩,.string ⟨#[]⟩,.string ⟨#[]⟩,.int .i64 0,.slice none 0 0,.string ⟨#[]⟩,.slice none 0 0],.agg #[.int .i64 0,.int .i64 0,.bool false,.int .i64 0]],[]⟩).memory Tryz.f3.params.toList Rows.topStreamsSpec.vars false #[(.agg #[.int .u8 0,.int .u64 0,.int .u32 0,.int .u32 0,.string ⟨#[]⟩,.string ⟨#[]⟩,.string ⟨#[]⟩,.int .i64 0,.slice none 0 0,.string ⟨#[]⟩,.slice none 0 0]:Value),(.agg #[.int .i64 0,.int .i64 0,.bool false,.int .i64 0]:Value)].toList 8=some ([.agg [.agg [.agg [.lit (.int .u8 0),.lit (.int .u64 0),.lit (.int .u32 0),.lit (.int .u32 0)],.lit (.string []),.lit (.string [])],.agg [.agg [.lit (.string []),.lit (.int .i64 0)],.nil],.lit (.string []),.nil],.agg [.lit (.int .i64 0),.lit (.int .i64 0),.lit (.bool false),.lit (.int .i64 0)]],[],places):=
 ⟨[],by kernel_rfl⟩
theorem ZqQ (os:Os):laidMetH Tryz.prog Rows.topStreamsRow.laid ((World.laidAll Tryz.prog os Rows.topStreamsRow.laid).forCall (fun _ _=>0) ⟨#[],#[.agg #[.int .u8 0,.int .u64 0,.int .u32 0,.int .u32 0,.string ⟨#[]⟩,.string ⟨#[]⟩,.string ⟨#[]⟩,.int .i64 0,.slice none 0 0,.string ⟨#[]⟩,.slice none 0 0],.agg #[.int .i64 0,.int .i64 0,.bool false,.int .i64 0]],[]⟩).memory:=by
 rw [MakeChecks.laidMetH_plain _ _ _ (by kernel_rfl)];exact laidMet_laidAll _ (by kernel_rfl) (by kernel_rfl)
theorem ZqU (os:Os){H:Type} (enc:TypeId×Value→H):
 ∃(w:World) (tape:Tape) (i:Input),w.os=os∧(w.forCall tape i).Shaped Tryz.checked.prog∧i.vars=[]∧Input.okWide Tryz.checked.prog (w.forCall tape i) .any w.heap.size 3 i∧
  (OpenSpec.ofChange Rows.topStreamsSpec).preRow enc Tryz.checked.prog Tryz.f3 Rows.topStreamsRow.domain false Rows.topStreamsRow.laid (w.forCall tape i).memory i.args∧({}:Assume).holds Tryz.checked.prog (lone (Frame.enter Tryz.checked.prog 3 i.args .normal) [] (w.forCall tape i)):=by
 obtain⟨places,hx⟩:=ZqS os enc;exact witness_row_atRef (enc:=enc) (C:=Tryz.checked) false (World.laidAll Tryz.prog os Rows.topStreamsRow.laid) #[.agg #[.int .u8 0,.int .u64 0,.int .u32 0,.int .u32 0,.string ⟨#[]⟩,.string ⟨#[]⟩,.string ⟨#[]⟩,.int .i64 0,.slice none 0 0,.string ⟨#[]⟩,.slice none 0 0],.agg #[.int .i64 0,.int .i64 0,.bool false,.int .i64 0]] (World.laidAll_os _ _ _) (by kernel_rfl) (by kernel_rfl) (by kernel_rfl)
  (OpenSpec.preRow_of_cond 8 hx (by kernel_rfl) (fun k hk=>by cases hk) (by kernel_rfl) (ZqQ os))
theorem ZqP (os:Os)(started:os.Started)(H:Type)(enc:TypeId×Value→H)(F:Stop.Interp):
 ReturnsInHanded {} Tryz.checked os 3 .any ((OpenSpec.ofChange Rows.topStreamsSpec).preRow enc Tryz.prog Tryz.f3 Rows.topStreamsRow.domain false Rows.topStreamsRow.laid) (((OpenSpec.ofChange Rows.topStreamsSpec).at F).post enc Tryz.prog Tryz.f3 false true false false):=by
 refine returnsInHanded_of_row (C:=Tryz.checked) (s:=OpenSpec.ofChange Rows.topStreamsSpec) Zpn started (by kernel_rfl) Tryz.func3 (ZqU os enc) ?_;intro W base args ds gs before hval0 hW hq1 hq2 hcond hL0 hsh hq4;have hL:laidMetH Tryz.prog Rows.topStreamsRow.laid W:=hL0;have hT:Zj W:=ZqE hL (by kernel_rfl) (by simp [Rows.topStreamsRow]) (by simp [Rows.topStreamsRow]);have hS:Lib.VarReads Tryz.prog W "diacritic/sniff.starts" Rows.laid_diacritic_sniff_starts:=by
  have h:=hL;rw [MakeChecks.laidMetH_plain _ _ _ (by kernel_rfl)] at h;exact Lib.laidMet.reads h (by simp [Rows.topStreamsRow])
 have hD:DB W:=ZnC hL (by kernel_rfl) (by simp [Rows.topStreamsRow]);have hM:ML W:=Tryz.laysM143.s1_3 W hsh;clear hL0 hL;have hval:∀(j:Nat) t v,Tryz.f3.params[j]? =some t→args[j]? =some v→Value.okWide Tryz.prog W .any base t v:=hval0;have hW':DataW.Whole enc Tryz.prog Tryz.f3.params.toList Rows.topStreamsSpec.vars false W args.toList ds gs before:=hW;obtain⟨p,q,hA0,hV,rfl,hfz,hnd⟩:=hW;have hA:DataW.TrodAll enc Tryz.prog W 0 (fun _=>true) true Tryz.f3.params.toList args.toList ds p:=hA0;rw [Tryz.params3] at hA hval;obtain⟨v0,v1,d0,d1,p0,p1,rfl,rfl,rfl,h0,h1⟩:=trodAll_two hA;obtain⟨rfl,rfl⟩:=trodVars_none hV;clear hA0 hval0;have fin:∀W',Below W.heap.size W W'→∃v,Ending.returned (.bool true)= .returned v∧((OpenSpec.ofChange Rows.topStreamsSpec).at F).post enc Tryz.prog Tryz.f3 false true false false W _ v W':=
  fun W' hb=>⟨_,rfl,ZpC ZoB rfl (by kernel_rfl) (by kernel_rfl) Tryz.underlying4 hW' rfl hb⟩
 clear hW' hfz hnd;obtain⟨cs0,rfl,_⟩:=okWide_struct Tryz.underlying36 (hval 0 36 v0 rfl rfl);obtain⟨cs1,rfl,_⟩:=okWide_struct Tryz.underlying39 (hval 1 39 v1 rfl rfl);obtain⟨k0,f0⟩:=h0;obtain⟨k1,f1⟩:=h1;obtain⟨y,hy,vs,A,AN,c,cN,e0,hm,hn,hR,hN⟩:=Zpg f0;obtain⟨kd,fb,bud,det,e1⟩:=Zpe f1;obtain rfl:cs0=stV y.first y.v vs (.slice AN y.ns.length cN) y.setup (.slice A y.sound.length c):=by
  have e:cs0.toList=_:=e0;exact Array.toList_inj.1 e
 obtain rfl:cs1=#[.int .i64 kd,.int .i64 fb,.bool det,.int .i64 bud]:=by
  have e:cs1.toList=_:=e1;cases cs1
  simp only at e;rw [e]
 refine(ZmV y hy vs A AN c cN kd fb bud det hm hn W hR hN hT hD hM hS).mono ?_;rintro e W' ⟨rfl,hb⟩;exact fin W' hb
theorem ZqT:Rows.TopStreamsSaid:=
 OpenClaim.holds_of_cond 3 Tryz.f3 rfl rfl rfl rfl rfl rfl rfl ⟨rfl,rfl,rfl,rfl,rfl⟩ rfl rfl rfl rfl rfl (by as_aux_lemma=>kernel_rfl) Tryz.func3 ZqN
  (by as_aux_lemma=>exact of_decide_eq_true (by kernel_rfl)) (by as_aux_lemma=>unfold Func.isWrapper;first|(rw [if_pos (by decide+kernel)];kernel_rfl)|(rw [if_neg (by decide+kernel)];exact⟨rfl,rfl⟩))
  (fun os started H enc _ F=>by rw [OpenClaim.pre_eq_preRow];exact ZqP os started H enc F)
theorem ZqR (f:FuncId)(fn:Func)(hf:Tryz.pinned.checked.prog.funcNamed "diacritic/diacritictop.TopStreams" =some f)(hfn:Tryz.pinned.checked.prog.funcs[f]? =some fn):
 false=Tryz.pinned.checked.prog.looks []∧∀(j:Nat) t,fn.params[j]? =some t→Tryz.pinned.checked.prog.wantsStandIn t=false:=by
 obtain rfl:f=3:=Option.some.inj ((show Tryz.prog.funcNamed "diacritic/diacritictop.TopStreams" =some 3 by kernel_rfl).symm.trans hf)|>.symm
 obtain rfl:fn=Tryz.f3:=(Option.some.inj (Tryz.func3.symm.trans hfn)).symm;refine⟨by kernel_rfl,fun j t ht=> ?_⟩;rw [Tryz.params3] at ht;have hm:t∈[36,39]:=by simpa using Array.mem_of_getElem? ht
 have hall:([36,39].all fun u=> !Tryz.prog.wantsStandIn u)=true:=by kernel_rfl
 exact(show Tryz.prog.wantsStandIn t=false by simpa using List.all_eq_true.1 hall t hm)
theorem ZqO:false=Rows.topStreamsRow.goesBy Tryz.pinned.checked.prog:=by
 show false=(Tryz.prog.goesFrom Rows.topStreamsRow.func||false)
 rw [←Zoi _ _ Zoh];rfl
theorem topStreams_card:Rows.TopStreamsCardSaid:=
 Claim7.holds_tied_plain_at .later [] _ _ _ _ ZqT (fun _ h=>by cases h) (by as_aux_lemma=>kernel_rfl) (fun _ h=>by cases h) topStreams_row_tie rfl ⟨rfl,rfl⟩ (by as_aux_lemma=>kernel_rfl) rfl ZqR ZqO
end Go.Proofs.YtnbkfkbcpfkddaaGreatDoor
