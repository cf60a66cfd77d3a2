/- TopVersionsUptoCardSaid: TopVersions returns true, as its card says. Conditions: those of the card (arguments of bulk at most 1048576; the package variables as laid). -/
import Derived.Test.YtlhllehffkoloaaGreatDoorM44
import Derived.Test.YtlhllehffkoloaaGreatDoorM45
set_option linter.unusedVariables false
set_option linter.unusedSimpArgs false
set_option maxRecDepth 100000
set_option maxHeartbeats 40000000
namespace Go.Proofs.YtlhllehffkoloaaGreatDoor
open Go Go.Proofs Go.ChangeShapes Go.WideShapes Go.ChangeAt Go.RowKit
theorem Zvt {w:World} (h:Lib.VarReads Tryz.prog w "diacritic/sniff.starts" Rows.laid_diacritic_sniff_starts):ZhU w:=by
 obtain⟨m,h1,hm⟩:=Ev.starts_reads h;subst hm;intro j u hu;rw [Nat.zero_add];exact h1 j u hu
theorem ZqZ (s:ByteArray)(x:Bool)(w:World)(hs:s.size≤1048576)(hT:Zk w)(hD:DB w)(hM:ML w)(hv:Lib.VarReads Tryz.prog w "diacritic/sniff.starts" Rows.laid_diacritic_sniff_starts):Calls Tryz.prog 3 #[.string s,.bool x] w fun e w'=>e= .returned (.bool true)∧Below w.heap.size w w':=by
 rw [B_of s];have hl:s.data.toList.length=s.size:=by rw [Array.length_toList];rfl
 exact ZqY s.data.toList (by omega) x w (Ev.gl_of hT hD hM hv) ⟨⟨hT,hD,hM⟩,Zvt hv⟩
theorem ZvW (os:Os){H:Type} (enc:TypeId×Value→H):∃places,DataW.whole enc Tryz.prog ((World.laidAll Tryz.prog os Rows.topVersionsUptoRow.laid).forCall (fun _ _=>0) ⟨#[],#[.string ⟨#[]⟩,.bool false],[]⟩).memory Tryz.f3.params.toList Rows.topVersionsSpec.vars false #[(.string ⟨#[]⟩:Value),(.bool false:Value)].toList 8=some ([.lit (.string []),.lit (.bool false)],[],places):=
 ⟨[],by kernel_rfl⟩
theorem ZvU (os:Os):laidMetH Tryz.prog Rows.topVersionsUptoRow.laid ((World.laidAll Tryz.prog os Rows.topVersionsUptoRow.laid).forCall (fun _ _=>0) ⟨#[],#[.string ⟨#[]⟩,.bool false],[]⟩).memory:=by
 rw [MakeChecks.laidMetH_plain _ _ _ (by kernel_rfl)];exact laidMet_laidAll _ (by kernel_rfl) (by kernel_rfl)
theorem ZvY (os:Os){H:Type} (enc:TypeId×Value→H):
 ∃(w:World) (tape:Tape) (i:Input),w.os=os∧(w.forCall tape i).Shaped Tryz.checked.prog∧i.vars=[]∧Input.okWide Tryz.checked.prog (w.forCall tape i) .any w.heap.size 3 i∧
  (Rows.OpenSpec.upto Rows.topVersionsSpec).preRow enc Tryz.checked.prog Tryz.f3 Rows.topVersionsUptoRow.domain false Rows.topVersionsUptoRow.laid (w.forCall tape i).memory i.args∧({}:Assume).holds Tryz.checked.prog (lone (Frame.enter Tryz.checked.prog 3 i.args .normal) [] (w.forCall tape i)):=by
 obtain⟨places,hx⟩:=ZvW os enc;exact witness_row_atRef (enc:=enc) (C:=Tryz.checked) false (World.laidAll Tryz.prog os Rows.topVersionsUptoRow.laid) #[.string ⟨#[]⟩,.bool false] (World.laidAll_os _ _ _) (by kernel_rfl) (by kernel_rfl) (by kernel_rfl)
  (OpenSpec.preRow_of_cond 8 hx (by kernel_rfl) (fun k hk=>by cases hk;kernel_rfl) (by kernel_rfl) (ZvU os))
theorem ZvT (os:Os)(started:os.Started)(H:Type)(enc:TypeId×Value→H)(F:Stop.Interp):
 ReturnsInHanded {} Tryz.checked os 3 .any ((Rows.OpenSpec.upto Rows.topVersionsSpec).preRow enc Tryz.prog Tryz.f3 Rows.topVersionsUptoRow.domain false Rows.topVersionsUptoRow.laid) (((Rows.OpenSpec.upto Rows.topVersionsSpec).at F).post enc Tryz.prog Tryz.f3 false true false false):=by
 refine returnsInHanded_of_row (C:=Tryz.checked) (s:=Rows.OpenSpec.upto Rows.topVersionsSpec) Zuh started (by kernel_rfl) Tryz.func3 (ZvY os enc) ?_;intro W base args ds gs before hval0 hW hq1 hq2 hcond hL0 hsh hq4;have hL:laidMetH Tryz.prog Rows.topVersionsUptoRow.laid W:=hL0;have hT:Zk W:=ZvG hL (by kernel_rfl) (by simp [Rows.topVersionsUptoRow]) (by simp [Rows.topVersionsUptoRow]);have hS:Lib.VarReads Tryz.prog W "diacritic/sniff.starts" Rows.laid_diacritic_sniff_starts:=by
  have h:=hL;rw [MakeChecks.laidMetH_plain _ _ _ (by kernel_rfl)] at h;exact Lib.laidMet.reads h (by simp [Rows.topVersionsUptoRow])
 have hD:DB W:=ZrY hL (by kernel_rfl) (by simp [Rows.topVersionsUptoRow]);have hM:ML W:=Tryz.laysM143.s1_3 W hsh;clear hL0 hL;have hval:∀(j:Nat) t v,Tryz.f3.params[j]? =some t→args[j]? =some v→Value.okWide Tryz.prog W .any base t v:=hval0;have hW':DataW.Whole enc Tryz.prog Tryz.f3.params.toList Rows.topVersionsSpec.vars false W args.toList ds gs before:=hW;obtain⟨p,q,hA0,hV,rfl,hfz,hnd⟩:=hW;have hA:DataW.TrodAll enc Tryz.prog W 0 (fun _=>true) true Tryz.f3.params.toList args.toList ds p:=hA0;rw [Tryz.params3] at hA hval;obtain⟨v0,v1,d0,d1,p0,p1,rfl,rfl,rfl,h0,h1⟩:=trodAll_two hA;obtain⟨rfl,rfl⟩:=trodVars_none hV;clear hA0 hval0;have fin:∀W',Below W.heap.size W W'→∃v,Ending.returned (.bool true)= .returned v∧((Rows.OpenSpec.upto Rows.topVersionsSpec).at F).post enc Tryz.prog Tryz.f3 false true false false W _ v W':=
  fun W' hb=>⟨_,rfl,Zuy Ztu rfl (by kernel_rfl) (by kernel_rfl) Tryz.underlying4 hW' rfl hb⟩
 clear hW' hfz hnd;obtain⟨s0,rfl,rfl,rfl,hs0⟩:=Go.ChangeMaps.open_string Tryz.underlying9 (hval 0 9 v0 rfl rfl) h0;obtain⟨x1,rfl,rfl,rfl⟩:=open_bool Tryz.underlying4 (hval 1 4 v1 rfl rfl) h1;have hbd:s0.size≤1048576:=by
  have hk:=of_decide_eq_true (hq2 _ rfl);simp only [List.cons_append,List.nil_append,Rows.uptoBulkAll,Rows.uptoBulk] at hk;have hl:s0.data.toList.length=s0.size:=by rw [Array.length_toList];rfl
  omega
 refine(ZqZ s0 x1 W hbd hT hD hM hS).mono ?_;rintro e W' ⟨rfl,hb⟩;exact fin W' hb
theorem ZvX:Rows.TopVersionsUptoSaid:=
 OpenClaim.holds_of_cond 3 Tryz.f3 rfl rfl rfl rfl rfl rfl rfl ⟨rfl,rfl,rfl,rfl,rfl⟩ rfl rfl rfl rfl rfl (by as_aux_lemma=>kernel_rfl) Tryz.func3 ZvR
  (by as_aux_lemma=>exact of_decide_eq_true (by kernel_rfl)) (by as_aux_lemma=>unfold Func.isWrapper;first|(rw [if_pos (by decide+kernel)];kernel_rfl)|(rw [if_neg (by decide+kernel)];exact⟨rfl,rfl⟩))
  (fun os started H enc _ F=>by rw [OpenClaim.pre_eq_preRow];exact ZvT os started H enc F)
theorem ZvV (f:FuncId)(fn:Func)(hf:Tryz.pinned.checked.prog.funcNamed "diacritic/diacritictop.TopVersions" =some f)(hfn:Tryz.pinned.checked.prog.funcs[f]? =some fn):
 false=Tryz.pinned.checked.prog.looks []∧∀(j:Nat) t,fn.params[j]? =some t→Tryz.pinned.checked.prog.wantsStandIn t=false:=by
 obtain rfl:f=3:=Option.some.inj ((show Tryz.prog.funcNamed "diacritic/diacritictop.TopVersions" =some 3 by kernel_rfl).symm.trans hf)|>.symm
 obtain rfl:fn=Tryz.f3:=(Option.some.inj (Tryz.func3.symm.trans hfn)).symm;refine⟨by kernel_rfl,fun j t ht=> ?_⟩;rw [Tryz.params3] at ht;have hm:t∈[9,4]:=by simpa using Array.mem_of_getElem? ht
 have hall:([9,4].all fun u=> !Tryz.prog.wantsStandIn u)=true:=by kernel_rfl
 exact(show Tryz.prog.wantsStandIn t=false by simpa using List.all_eq_true.1 hall t hm)
theorem ZvS:false=Rows.topVersionsUptoRow.goesBy Tryz.pinned.checked.prog:=by
 show false=(Tryz.prog.goesFrom Rows.topVersionsUptoRow.func||false)
 rw [←Zs1 _ _ Zs0];rfl
theorem topVersions_card:Rows.TopVersionsUptoCardSaid:=
 Claim7.holds_tied_plain_at .later [] _ _ _ _ ZvX (fun _ h=>by cases h) (by as_aux_lemma=>kernel_rfl) (fun _ h=>by cases h) topVersionsUpto_row_tie rfl ⟨rfl,rfl⟩ (by as_aux_lemma=>kernel_rfl) rfl ZvV ZvS
end Go.Proofs.YtlhllehffkoloaaGreatDoor
