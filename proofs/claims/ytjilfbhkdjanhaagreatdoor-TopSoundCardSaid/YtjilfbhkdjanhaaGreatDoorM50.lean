/- TopSoundCardSaid: TopSound returns true, as its card says. Conditions: those of the card (the package variables as laid). -/
import Derived.Test.YtjilfbhkdjanhaaGreatDoorM47
import Derived.Test.YtjilfbhkdjanhaaGreatDoorM49
set_option linter.all false
set_option maxRecDepth 100000
set_option maxHeartbeats 40000000
open Go.Proofs.Tryz
namespace Go.Proofs.YtjilfbhkdjanhaaGreatDoor
open Go Go.Proofs Go.ChangeShapes Go.WideShapes Go.ChangeAt Go.RowKit
def ZwL{w:World}(h:Lib.VarReads prog w "diacritic/sniff.starts" Rows.laid_diacritic_sniff_starts):Zls w:=by
 obtain⟨m,C,y⟩:=Ev.starts_reads h;subst y;intro j u q;rw[Nat.zero_add];exact C j u q
def Zsm(b:ByteArray)(q fb j:Int)(det:Bool)(y:Tl)(hb:b.size<=maxLen)(I:∀k,(tlN y k).length<=maxLen)(w:World)(hT:Zo w)(D:DB w)(C:ML w)(u:Lib.VarReads prog w "diacritic/sniff.starts" Rows.laid_diacritic_sniff_starts):
 Calls prog 3 #[.string b,.agg #[.int .i64 q,.int .i64 fb,.bool det,.int .i64 j],.agg (tlA y)] w λe w'=>e=.returned (.bool true)/\Below w.heap.size w w':=by
 have e:maxLen<=9223372036854775807:=by decide
 rw[ZdC b];have J:b.data.toList.length=b.size:=by rw[Array.length_toList];rfl
 exact Zsl b.data.toList q fb j det y (λk=>Nat.le_trans (I k) e) (by rw[J];exact Nat.le_trans hb e) w (Ev.gl_of hT D C u) ⟨⟨hT,D,C⟩,ZwL u⟩
def Zw9(os:Os){H:Type}(enc:TypeId×Value->H):∃places,DataW.whole enc prog ((World.laidAll prog os Rows.topSoundRow.laid).forCall (λ_ _=>0) ⟨#[],#[.string ⟨#[]⟩,.agg #[.int .i64 0,.int .i64 0,.bool false,.int .i64 0],.agg #[.string ⟨#[]⟩,.string ⟨#[]⟩,.string ⟨#[]⟩,.string ⟨#[]⟩,.string ⟨#[]⟩,.int .u8 0,.int .u8 0]],[]⟩).memory Tryz.f3.params.toList Rows.topSoundSpec.vars false #[(.string ⟨#[]⟩:Value),(.agg #[.int .i64 0,.int .i64 0,.bool false,.int .i64 0]:Value),(.agg #[.string ⟨#[]⟩,.string ⟨#[]⟩,.string ⟨#[]⟩,.string ⟨#[]⟩,.string ⟨#[]⟩,.int .u8 0,.int .u8 0]:Value)].toList 8=some ([.lit (.string []),.agg [.lit (.int .i64 0),.lit (.int .i64 0),.lit (.bool false),.lit (.int .i64 0)],.agg [.agg [.lit (.string []),.lit (.string []),.lit (.string []),.lit (.string []),.lit (.string [])],.lit (.int .u8 0),.lit (.int .u8 0)]],[],places):=
 ⟨[],by kernel_rfl⟩
def Zw7(os:Os):laidMetH prog Rows.topSoundRow.laid ((World.laidAll prog os Rows.topSoundRow.laid).forCall (λ_ _=>0) ⟨#[],#[.string ⟨#[]⟩,.agg #[.int .i64 0,.int .i64 0,.bool false,.int .i64 0],.agg #[.string ⟨#[]⟩,.string ⟨#[]⟩,.string ⟨#[]⟩,.string ⟨#[]⟩,.string ⟨#[]⟩,.int .u8 0,.int .u8 0]],[]⟩).memory:=by
 rw[MakeChecks.laidMetH_plain _ _ _ (by kernel_rfl)];exact laidMet_laidAll _ (by kernel_rfl) (by kernel_rfl)
def Zxb(os:Os){H:Type}(enc:TypeId×Value->H):
 ∃(w:World) (tape:Tape) (i:Input),w.os=os/\(w.forCall tape i).Shaped Tryz.checked.prog/\i.vars=[]/\Input.okWide Tryz.checked.prog (w.forCall tape i) .any w.heap.size 3 i/\
  (OpenSpec.ofChange Rows.topSoundSpec).preRow enc Tryz.checked.prog Tryz.f3 Rows.topSoundRow.domain false Rows.topSoundRow.laid (w.forCall tape i).memory i.args/\({}:Assume).holds Tryz.checked.prog (lone (Frame.enter Tryz.checked.prog 3 i.args .normal) [] (w.forCall tape i)):=by
 obtain⟨places,j⟩:=Zw9 os enc;exact witness_row_atRef (enc:=enc) (C:=Tryz.checked) false (World.laidAll prog os Rows.topSoundRow.laid) #[.string ⟨#[]⟩,.agg #[.int .i64 0,.int .i64 0,.bool false,.int .i64 0],.agg #[.string ⟨#[]⟩,.string ⟨#[]⟩,.string ⟨#[]⟩,.string ⟨#[]⟩,.string ⟨#[]⟩,.int .u8 0,.int .u8 0]] (World.laidAll_os _ _ _) (by kernel_rfl) (by kernel_rfl) (by kernel_rfl)
  (OpenSpec.preRow_of_cond 8 j (by kernel_rfl) (λk q=>by cases q) (by kernel_rfl) (Zw7 os))
def Zw6(os:Os)(D:os.Started)(H:Type)(enc:TypeId×Value->H)(F:Stop.Interp):
 ReturnsInHanded {} Tryz.checked os 3 .any ((OpenSpec.ofChange Rows.topSoundSpec).preRow enc prog Tryz.f3 Rows.topSoundRow.domain false Rows.topSoundRow.laid) (((OpenSpec.ofChange Rows.topSoundSpec).at F).post enc prog Tryz.f3 false true false false):=by
 refine returnsInHanded_of_row (C:=Tryz.checked) (s:=OpenSpec.ofChange Rows.topSoundSpec) Zvw D (by kernel_rfl) func3 (Zxb os enc) ?_;intro W base args ds gs J I hW aE aD ai U aa aC;have Z:laidMetH prog Rows.topSoundRow.laid W:=U;have hT:Zo W:=ZwV Z (by kernel_rfl) (by simp[Rows.topSoundRow]) (by simp[Rows.topSoundRow]);have hS:Lib.VarReads prog W "diacritic/sniff.starts" Rows.laid_diacritic_sniff_starts:=by
  have h:=Z;rw[MakeChecks.laidMetH_plain _ _ _ (by kernel_rfl)] at h;exact Lib.laidMet.reads h (by simp[Rows.topSoundRow])
 have hD:DB W:=Ztk Z (by kernel_rfl) (by simp[Rows.topSoundRow]);have hM:ML W:=laysM143.s1_3 W aa;clear U Z;have u:∀(j:Nat) t v,Tryz.f3.params[j]?=some t->args[j]?=some v->Value.okWide prog W .any base t v:=I;have O:DataW.Whole enc prog Tryz.f3.params.toList Rows.topSoundSpec.vars false W args.toList ds gs J:=hW;obtain⟨p,q,V,hV,rfl,ah,af⟩:=hW;have hA:DataW.TrodAll enc prog W 0 (λ_=>true) true Tryz.f3.params.toList args.toList ds p:=V;rw[params3] at hA u;have aj:=hA;obtain⟨v0,az,d0,aP,p0,q0,e0,rfl,rfl,h0,ae⟩:=trodAll_cons aj
 try subst e0
 obtain⟨v1,ay,d1,aO,p1,q1,e1,rfl,rfl,h1,ad⟩:=trodAll_cons ae
 try subst e1
 obtain⟨v2,ax,d2,aN,p2,q2,e2,rfl,rfl,h2,ac⟩:=trodAll_cons ad
 try subst e2
 obtain⟨rfl,rfl,rfl⟩:=trodAll_nil ac;obtain rfl:args=#[v0,v1,v2]:=by cases args;simp_all
 obtain⟨rfl,rfl⟩:=trodVars_none hV;clear V I;have fin:∀Y,Below W.heap.size W Y->∃v,Ending.returned (.bool true)=.returned v/\((OpenSpec.ofChange Rows.topSoundSpec).at F).post enc prog Tryz.f3 false true false false W _ v Y:=
  λY hb=>⟨_,rfl,ZvP ZuG rfl (by kernel_rfl) (by kernel_rfl) underlying4 O rfl hb⟩
 clear O ah af;obtain⟨s0,rfl,rfl,rfl,ab⟩:=Go.ChangeMaps.open_string underlying9 (u 0 9 v0 rfl rfl) h0;obtain⟨N,rfl,_⟩:=okWide_struct underlying25 (u 1 25 v1 rfl rfl);obtain⟨L,rfl,_⟩:=okWide_struct underlying29 (u 2 29 v2 rfl rfl);obtain⟨k1,f1⟩:=h1;obtain⟨k2,f2⟩:=h2;obtain⟨kd,fb,X,det,e1⟩:=Zvo f1;obtain⟨y,e2,hy⟩:=Zvp f2;obtain rfl:N=#[.int .i64 kd,.int .i64 fb,.bool det,.int .i64 X]:=by
  have e:N.toList=_:=e1;cases N
  simp only at e;rw[e]
 obtain rfl:L=tlA y:=by
  have e:L.toList=_:=e2;cases L
  simp only at e;rw[e];rfl
 refine MR (Zsm s0 kd fb X det y ab hy W hT hD hM hS) λY hb=>?_;exact fin Y hb
def Zxa:Rows.TopSoundSaid:=
 OpenClaim.holds_of_cond 3 Tryz.f3 rfl rfl rfl rfl rfl rfl rfl ⟨rfl,rfl,rfl,rfl,rfl⟩ rfl rfl rfl rfl rfl (by as_aux_lemma=>kernel_rfl) func3 Zw4
  (by as_aux_lemma=>exact of_decide_eq_true (by kernel_rfl)) (by as_aux_lemma=>unfold Func.isWrapper;first|(rw[if_pos (by decide+kernel)];kernel_rfl)|(rw[if_neg (by decide+kernel)];exact⟨rfl,rfl⟩))
  (λos j H enc _ F=>by rw[OpenClaim.pre_eq_preRow];exact Zw6 os j H enc F)
def Zw8(f:FuncId)(fn:Func)(I:Tryz.pinned.checked.prog.funcNamed "diacritic/diacritictop.TopSound" =some f)(y:Tryz.pinned.checked.prog.funcs[f]?=some fn):
 false=Tryz.pinned.checked.prog.looks []/\∀(j:Nat) t,fn.params[j]?=some t->Tryz.pinned.checked.prog.wantsStandIn t=false:=by
 obtain rfl:f=3:=Option.some.inj ((show prog.funcNamed "diacritic/diacritictop.TopSound" =some 3 by kernel_rfl).symm.trans I)|>.symm
 obtain rfl:fn=Tryz.f3:=(Option.some.inj (func3.symm.trans y)).symm;refine⟨by kernel_rfl,λj t C=>?_⟩;rw[params3] at C;have D:t∈[9,25,29]:=by simpa using Array.mem_of_getElem? C
 have q:([9,25,29].all λu=> !prog.wantsStandIn u)=true:=by kernel_rfl
 exact(show prog.wantsStandIn t=false by simpa using List.all_eq_true.1 q t D)
def Zw5:false=Rows.topSoundRow.goesBy Tryz.pinned.checked.prog:=by
 show false=(prog.goesFrom Rows.topSoundRow.func||false)
 rw[<-Zuc _ _ Zub];rfl
theorem topSound_card:Rows.TopSoundCardSaid:=
 Claim7.holds_tied_plain_at .later [] _ _ _ _ Zxa (λ_ h=>by cases h) (by as_aux_lemma=>kernel_rfl) (λ_ h=>by cases h) topSound_row_tie rfl ⟨rfl,rfl⟩ (by as_aux_lemma=>kernel_rfl) rfl Zw8 Zw5
