/- TopDeclaredUptoCardSaid: TopDeclared returns true, as its card says. Conditions: those of the card (the package variables as laid; texts of at most 1,048,576 bytes). -/
import Derived.Deep.Slices
import Derived.Deep.Fields
import Derived.ChangeSame
import Derived.Test.YtlfinljfghhpdaaGreatDoorM46
import Derived.Test.YtlfinljfghhpdaaGreatDoorM48
set_option linter.unusedVariables false
set_option linter.unusedSimpArgs false
set_option maxRecDepth 100000
set_option maxHeartbeats 40000000
namespace Go.Proofs.YtlfinljfghhpdaaGreatDoor
open Go Go.Proofs Go.ChangeShapes Go.WideShapes Go.ChangeAt Go.RowKit
theorem Zt5 {w:World} (h:Lib.VarReads Tryz.prog w "diacritic/sniff.starts" Rows.laid_diacritic_sniff_starts):Zff w:=by
 obtain⟨m,h1,hm⟩:=Ev.starts_reads h;subst hm;intro j u hu;rw [Nat.zero_add];exact h1 j u hu
theorem Zp5 (c f:Int)(s:ByteArray)(x:Bool)(w:World)(hc:0≤c∧c≤255)(hf:0≤f∧f≤255)(hs:s.size≤1048576)(hT:Zj w)(hD:DB w)(hM:ML w)(hv:Lib.VarReads Tryz.prog w "diacritic/sniff.starts" Rows.laid_diacritic_sniff_starts):Calls Tryz.prog 3 #[.int .u8 c,.string s,.int .u8 f,.bool x] w fun e w'=>e= .returned (.bool true)∧Below w.heap.size w w':=by
 obtain⟨c8,rfl⟩:∃q:UInt8,c=(q.toNat:Int):=⟨UInt8.ofNat c.toNat,by rw [UInt8.toNat_ofNat'];omega⟩
 obtain⟨f8,rfl⟩:∃q:UInt8,f=(q.toNat:Int):=⟨UInt8.ofNat f.toNat,by rw [UInt8.toNat_ofNat'];omega⟩
 rw [Zcr s];have hl:s.data.toList.length=s.size:=by rw [Array.length_toList];rfl
 exact Zp4 c8 f8 s.data.toList x (by omega) w (Ev.gl_of hT hD hM hv) ⟨⟨hT,hD,hM⟩,Zt5 hv⟩
theorem Zuu (os:Os){H:Type} (enc:TypeId×Value→H):∃places,DataW.whole enc Tryz.prog ((World.laidAll Tryz.prog os Rows.topDeclaredUptoRow.laid).forCall (fun _ _=>0) ⟨#[],#[.int .u8 0,.string ⟨#[]⟩,.int .u8 0,.bool false],[]⟩).memory Tryz.f3.params.toList Rows.topDeclaredSpec.vars false #[(.int .u8 0:Value),(.string ⟨#[]⟩:Value),(.int .u8 0:Value),(.bool false:Value)].toList 8=some ([.lit (.int .u8 0),.lit (.string []),.lit (.int .u8 0),.lit (.bool false)],[],places):=
 ⟨[],by kernel_rfl⟩
theorem Zus (os:Os):laidMetH Tryz.prog Rows.topDeclaredUptoRow.laid ((World.laidAll Tryz.prog os Rows.topDeclaredUptoRow.laid).forCall (fun _ _=>0) ⟨#[],#[.int .u8 0,.string ⟨#[]⟩,.int .u8 0,.bool false],[]⟩).memory:=by
 rw [MakeChecks.laidMetH_plain _ _ _ (by kernel_rfl)];exact laidMet_laidAll _ (by kernel_rfl) (by kernel_rfl)
theorem Zuw (os:Os){H:Type} (enc:TypeId×Value→H):
 ∃(w:World) (tape:Tape) (i:Input),w.os=os∧(w.forCall tape i).Shaped Tryz.checked.prog∧i.vars=[]∧Input.okWide Tryz.checked.prog (w.forCall tape i) .any w.heap.size 3 i∧
  (Rows.OpenSpec.upto Rows.topDeclaredSpec).preRow enc Tryz.checked.prog Tryz.f3 Rows.topDeclaredUptoRow.domain false Rows.topDeclaredUptoRow.laid (w.forCall tape i).memory i.args∧({}:Assume).holds Tryz.checked.prog (lone (Frame.enter Tryz.checked.prog 3 i.args .normal) [] (w.forCall tape i)):=by
 obtain⟨places,hx⟩:=Zuu os enc;exact witness_row_atRef (enc:=enc) (C:=Tryz.checked) false (World.laidAll Tryz.prog os Rows.topDeclaredUptoRow.laid) #[.int .u8 0,.string ⟨#[]⟩,.int .u8 0,.bool false] (World.laidAll_os _ _ _) (by kernel_rfl) (by kernel_rfl) (by kernel_rfl)
  (OpenSpec.preRow_of_cond 8 hx (by kernel_rfl) (fun k hk=>by cases hk;kernel_rfl) (by kernel_rfl) (Zus os))
theorem Zur (os:Os)(started:os.Started)(H:Type)(enc:TypeId×Value→H)(F:Stop.Interp):
 ReturnsInHanded {} Tryz.checked os 3 .any ((Rows.OpenSpec.upto Rows.topDeclaredSpec).preRow enc Tryz.prog Tryz.f3 Rows.topDeclaredUptoRow.domain false Rows.topDeclaredUptoRow.laid) (((Rows.OpenSpec.upto Rows.topDeclaredSpec).at F).post enc Tryz.prog Tryz.f3 false true false false):=by
 refine returnsInHanded_of_row (C:=Tryz.checked) (s:=Rows.OpenSpec.upto Rows.topDeclaredSpec) ZsX started (by kernel_rfl) Tryz.func3 (Zuw os enc) ?_;intro W base args ds gs before hval0 hW hq1 hq2 hcond hL0 hsh hq4;have hL:laidMetH Tryz.prog Rows.topDeclaredUptoRow.laid W:=hL0;have hT:Zj W:=Zui hL (by kernel_rfl) (by simp [Rows.topDeclaredUptoRow]) (by simp [Rows.topDeclaredUptoRow]);have hS:Lib.VarReads Tryz.prog W "diacritic/sniff.starts" Rows.laid_diacritic_sniff_starts:=by
  have h:=hL;rw [MakeChecks.laidMetH_plain _ _ _ (by kernel_rfl)] at h;exact Lib.laidMet.reads h (by simp [Rows.topDeclaredUptoRow])
 have hD:DB W:=ZqW hL (by kernel_rfl) (by simp [Rows.topDeclaredUptoRow]);have hM:ML W:=Tryz.laysM143.s1_3 W hsh;clear hL0 hL;have hval:∀(j:Nat) t v,Tryz.f3.params[j]? =some t→args[j]? =some v→Value.okWide Tryz.prog W .any base t v:=hval0;have hW':DataW.Whole enc Tryz.prog Tryz.f3.params.toList Rows.topDeclaredSpec.vars false W args.toList ds gs before:=hW;obtain⟨p,q,hA0,hV,rfl,hfz,hnd⟩:=hW;have hA:DataW.TrodAll enc Tryz.prog W 0 (fun _=>true) true Tryz.f3.params.toList args.toList ds p:=hA0;rw [Tryz.params3] at hA hval;have hA1:=hA;obtain⟨v0,vs0,d0,ds0,p0,q0,e0,rfl,rfl,h0,hr1⟩:=trodAll_cons hA1
 try subst e0
 obtain⟨v1,vs1,d1,ds1,p1,q1,e1,rfl,rfl,h1,hr2⟩:=trodAll_cons hr1
 try subst e1
 obtain⟨v2,vs2,d2,ds2,p2,q2,e2,rfl,rfl,h2,hr3⟩:=trodAll_cons hr2
 try subst e2
 obtain⟨v3,vs3,d3,ds3,p3,q3,e3,rfl,rfl,h3,hr4⟩:=trodAll_cons hr3
 try subst e3
 obtain⟨rfl,rfl,rfl⟩:=trodAll_nil hr4;obtain rfl:args=#[v0,v1,v2,v3]:=by cases args;simp_all
 obtain⟨rfl,rfl⟩:=trodVars_none hV;clear hA0 hval0;have fin:∀W',Below W.heap.size W W'→∃v,Ending.returned (.bool true)= .returned v∧((Rows.OpenSpec.upto Rows.topDeclaredSpec).at F).post enc Tryz.prog Tryz.f3 false true false false W _ v W':=
  fun W' hb=>⟨_,rfl,Zs7 Zr1 rfl (by kernel_rfl) (by kernel_rfl) Tryz.underlying4 hW' rfl hb⟩
 clear hW' hfz hnd;obtain⟨x0,rfl,rfl,rfl,wx0⟩:=open_int Tryz.underlying5 (hval 0 5 v0 rfl rfl) h0;obtain⟨s0,rfl,rfl,rfl,hs0⟩:=Go.ChangeMaps.open_string Tryz.underlying9 (hval 1 9 v1 rfl rfl) h1;obtain⟨x2,rfl,rfl,rfl,wx2⟩:=open_int Tryz.underlying5 (hval 2 5 v2 rfl rfl) h2;obtain⟨x3,rfl,rfl,rfl⟩:=open_bool Tryz.underlying4 (hval 3 4 v3 rfl rfl) h3;have hbd:s0.size≤1048576:=by
  have hk:=of_decide_eq_true (hq2 _ rfl);simp only [List.cons_append,List.nil_append,Rows.uptoBulkAll,Rows.uptoBulk] at hk;have hl:s0.data.toList.length=s0.size:=by rw [Array.length_toList];rfl
  omega
 refine(Zp5 x0 x2 s0 x3 W (bounds_u8 wx0) (bounds_u8 wx2) hbd hT hD hM hS).mono ?_;rintro e W' ⟨rfl,hb⟩;exact fin W' hb
theorem Zuv:Rows.TopDeclaredUptoSaid:=
 OpenClaim.holds_of_cond 3 Tryz.f3 rfl rfl rfl rfl rfl rfl rfl ⟨rfl,rfl,rfl,rfl,rfl⟩ rfl rfl rfl rfl rfl (by as_aux_lemma=>kernel_rfl) Tryz.func3 Zup
  (by as_aux_lemma=>exact of_decide_eq_true (by kernel_rfl)) (by as_aux_lemma=>unfold Func.isWrapper;first|(rw [if_pos (by decide+kernel)];kernel_rfl)|(rw [if_neg (by decide+kernel)];exact⟨rfl,rfl⟩))
  (fun os started H enc _ F=>by rw [OpenClaim.pre_eq_preRow];exact Zur os started H enc F)
theorem Zut (f:FuncId)(fn:Func)(hf:Tryz.pinned.checked.prog.funcNamed "diacritic/diacritictop.TopDeclared" =some f)(hfn:Tryz.pinned.checked.prog.funcs[f]? =some fn):
 false=Tryz.pinned.checked.prog.looks []∧∀(j:Nat) t,fn.params[j]? =some t→Tryz.pinned.checked.prog.wantsStandIn t=false:=by
 obtain rfl:f=3:=Option.some.inj ((show Tryz.prog.funcNamed "diacritic/diacritictop.TopDeclared" =some 3 by kernel_rfl).symm.trans hf)|>.symm
 obtain rfl:fn=Tryz.f3:=(Option.some.inj (Tryz.func3.symm.trans hfn)).symm;refine⟨by kernel_rfl,fun j t ht=> ?_⟩;rw [Tryz.params3] at ht;have hm:t∈[5,9,5,4]:=by simpa using Array.mem_of_getElem? ht
 have hall:([5,9,5,4].all fun u=> !Tryz.prog.wantsStandIn u)=true:=by kernel_rfl
 exact(show Tryz.prog.wantsStandIn t=false by simpa using List.all_eq_true.1 hall t hm)
theorem Zuq:false=Rows.topDeclaredUptoRow.goesBy Tryz.pinned.checked.prog:=by
 show false=(Tryz.prog.goesFrom Rows.topDeclaredUptoRow.func||false)
 rw [←ZrI _ _ ZrH];rfl
theorem topDeclared_card:Rows.TopDeclaredUptoCardSaid:=
 Claim7.holds_tied_plain_at .later [] _ _ _ _ Zuv (fun _ h=>by cases h) (by as_aux_lemma=>kernel_rfl) (fun _ h=>by cases h) topDeclaredUpto_row_tie rfl ⟨rfl,rfl⟩ (by as_aux_lemma=>kernel_rfl) rfl Zut Zuq
end Go.Proofs.YtlfinljfghhpdaaGreatDoor
