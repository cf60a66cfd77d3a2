/- Lemmas for a statement on the tops; conditions: as each says. -/
import Derived.Test.YtlfinljfghhpdaaGreatDoorCards
import Derived.Test.YtlfinljfghhpdaaGreatDoorTie
import Derived.Lib.LaidU8
import Derived.Lay
import Derived.LaidMore
import Derived.MakeChecks
import Derived.ProofKit
import Derived.OpenShut
import Derived.Deep.DeepHandedRow
import Derived.Deep.DeepWitnessRowRef
import Derived.Lib.LaidTab
import Derived.Test.YtlfinljfghhpdaaGreatDoorM40
set_option linter.unusedVariables false
set_option linter.unusedSimpArgs false
set_option maxRecDepth 100000
set_option maxHeartbeats 40000000
namespace Go.Proofs.YtlfinljfghhpdaaGreatDoor
open Go Go.Proofs Go.ChangeShapes Go.WideShapes Go.ChangeAt Go.RowKit
theorem ZsX:ownKnob Tryz.prog.godebug=none:=by kernel_rfl
theorem Zr1:laidOutB Tryz.prog=true:=by kernel_rfl
section
variable {H:Type} {enc:TypeId×Value→H} {P:Program}
theorem Zj6 (hl:laidOutB P=true){W W':World} (hb:Below W.heap.size W W'){sp:Nat→Bool}:
 ∀{ts:List TypeId} {vs:List Value} {ds:List (DataW H)} {ps:List MemPlace},(ts.all fun t=>P.readableRec t&&decide (t<P.types.size))=true→
  (∀x∈ps,x.block<W.heap.size)→(∀x∈ps,sp x.block=true)→DataW.TrodAll enc P W 0 (fun _=>true) true ts vs ds ps→DataW.TrodAll enc P W' 0 sp true ts vs ds ps
 |[],_,_,_,_,_,_,h=>by
  obtain⟨rfl,rfl,rfl⟩:=trodAll_nil h;exact trodAll_mk0
 |t::ts,_,_,_,hr,hlt,hsp,h=>by
  obtain⟨v,vs,d,ds,p,q,rfl,rfl,rfl,hd,hrest⟩:=trodAll_cons h;simp only [List.all_cons,Bool.and_eq_true,decide_eq_true_eq] at hr;exact trodAll_cons_mk (WideElems.Trod_stays hl hr.1.1 hr.1.2 hd (fun x hx=>hb.same (hlt x (by simp [hx]))) (fun x hx=>hsp x (by simp [hx])))
   (Zj6 hl hb hr.2 (fun x hx=>hlt x (by simp [hx])) (fun x hx=>hsp x (by simp [hx])) hrest)
theorem Zs7 {f:Func} {s:ChangeSpec} {apart fresh handsOn again:Bool} {W W':World} {args:Array Value} {ds:List (DataW H)} {before:List MemPlace}
 (hl:laidOutB P=true) (hv:s.vars=[]) (hr:(f.params.toList.all fun t=>P.readableRec t&&decide (t<P.types.size))=true)
 (hres:f.resultTypes=#[4]) (h4:P.underlying 4=some .bool)
 (hW:DataW.Whole enc P f.params.toList s.vars apart W args.toList ds [] before)
 (hfn:s.fn H (ds++[])={results:=[.lit (.bool true)],args:=ds}) (hb:Below W.heap.size W W'):
 s.post enc P f apart fresh handsOn again W args (.bool true) W':=by
 have hW':=hW;have hlt:∀p∈before,p.block<W.heap.size:=fun p hp=>hW.lt p hp;obtain⟨p,q,hA,hV,rfl,hz,hn⟩:=hW;rw [hv] at hV;obtain⟨_,rfl⟩:=trodVars_none hV;simp only [List.append_nil] at hlt hz hn hW';have harg:∀sp:Nat→Bool,(∀x∈p,sp x.block=true)→DataW.TrodAll enc P W' 0 sp true f.params.toList args.toList (s.fn H (ds++[])).args p:=fun sp h=>by
  rw [hfn];exact Zj6 hl hb hr hlt h hA
 have hrs:∀(b:Nat) (sp:Nat→Bool) (hd:Bool),DataW.TrodAll enc P W' b sp hd f.resultTypes.toList ((Value.bool true).resultList f.resultTypes.size) (s.fn H (ds++[])).results []:=fun b sp hd=>by
  rw [hfn,hres];exact trodAll_mk1 (shut_bool h4 _)
 have hvars:∀sp:Nat→Bool,DataW.TrodVars enc P W' sp s.vars (s.fn H (ds++[])).vars []:=fun sp=>by
  rw [hfn,hv];rfl
 have hold:∀x∈p,(fun b=>decide (b<W.heap.size)) x.block=true:=fun x hx=>by simpa using hlt x hx
 refine⟨ds,[],p,[],p,[],hW',hrs _ _ _,harg _ hold,hvars _,World.keptBut_mono (fun x hx=>⟨hx,Or.inr (by simpa using hx)⟩) (hb.frame (· ∈p)),fun _=> ?_⟩;refine⟨ok_one hres rfl (okWide_bool_mk h4 _),_,_,([]++p)++[],⟨[]++p,[],trodAll_append (harg _ (fun _ _=>rfl)) (hrs _ _ _),hvars _,rfl,?_,?_⟩,?_⟩
 · intro b off hp;have hin:MemPlace.cell b off∈p:=by simpa using hp
   rw [hb.frozen (hlt _ hin)];exact hz b off hin
 · intro ha;simpa using hn ha
 · intro x hx _;simpa using hx
end
theorem Zrv:Rows.laid_unicode_utf8_first=Lib.firstData:=by kernel_rfl
theorem Zqk:(Rows.laid_unicode_utf8_acceptRanges:DataW Unit)=Lib.acceptData:=by kernel_rfl
theorem Zui {l:List (String×DataW Unit)} {W:World} (h:laidMetH Tryz.prog l W)(hp:(l.all fun x=>x.2.handleName?.isNone)=true)
 (h1:("unicode/utf8.first",Rows.laid_unicode_utf8_first)∈l) (h2:("unicode/utf8.acceptRanges",Rows.laid_unicode_utf8_acceptRanges)∈l):Zj W:=by
 rw [MakeChecks.laidMetH_plain _ _ _ hp] at h;rw [Zrv] at h1;rw [Zqk] at h2;exact utf8Tabs_of_reads (ρ:=Tryz.lays260_ren) {Tryz.lays260 with} ⟨by kernel_rfl,by kernel_rfl,by kernel_rfl,by kernel_rfl,by kernel_rfl,by kernel_rfl,by kernel_rfl⟩
  (Lib.laidMet.reads h h1) (Lib.laidMet.reads h h2)
def Zes:List Int:=Lib.deBruijn32tab.map fun n:Nat=>(n:Int)
theorem ZqV:(Rows.laid_math_bits_deBruijn32tab:DataW Unit)=Lib.tabData .u8 Zes:=by kernel_rfl
theorem ZqW {l:List (String×DataW Unit)} {W:World} (h:laidMetH Tryz.prog l W)(hp:(l.all fun x=>x.2.handleName?.isNone)=true)
 (h1:("math/bits.deBruijn32tab",Rows.laid_math_bits_deBruijn32tab)∈l):DB W:=by
 rw [MakeChecks.laidMetH_plain _ _ _ hp] at h;rw [ZqV] at h1;obtain⟨g,t,cs,fuel,p,hg,hty,hvar,hd⟩:=Lib.laidMet.reads h h1;obtain rfl:=Option.some.inj ((show Tryz.prog.globalNamed "math/bits.deBruijn32tab" =some 4 by kernel_rfl).symm.trans hg);obtain rfl:=Option.some.inj ((show(Tryz.prog.globals[4]?).map (·.type)=some 414 by kernel_rfl).symm.trans hty);have hcs:=Lib.cells_of_tab Tryz.underlying414 Tryz.underlying5 (by kernel_rfl) (by kernel_rfl) hd;intro j hj;rw [World.var?_cell hg hvar j,←Array.getElem?_toList,hcs];simp [Zes,List.getD,hj]
end Go.Proofs.YtlfinljfghhpdaaGreatDoor
namespace Go.Proofs.YtlfinljfghhpdaaGreatDoor
open Go Go.Proofs Go.RowKit
namespace Ev
theorem ZhS {w:World} {b j:Nat} {v:Value} (h:w.cell? ⟨b,j,none⟩=some v):b<w.heap.size:=by
 by_cases hlt:b<w.heap.size
 · exact hlt
 · rw [World.cell?] at h;simp [Array.getElem?_eq_none (Nat.le_of_not_lt hlt)] at h
theorem Zlo (ρ:Rho)(k:IntKind):∀zs:List Int,LR ρ (zs.map fun z=> .i k z) (zs.map fun z=>Value.int k z)
 |[]=>trivial
 |_::zs=>⟨rfl,Zlo ρ k zs⟩
def Zej (w:World)(g:Nat)(k:IntKind)(zs:List Int):Prop:=∀(j:Nat) (z:Int),zs[j]? =some z→w.cell? ⟨g,j,none⟩=some (.int k z)
theorem Zej.ls {w:World} {g:Nat} {k:IntKind} {zs:List Int} {l:List Cl} (hl:l=zs.map fun z=> .i k z)(h0:0<zs.length)(h:Zej w g k zs):g<w.heap.size∧∃m:List Value,(∀j u,m[j]? =some u→w.cell? ⟨g,j,none⟩=some u)∧∀ρ,LR ρ l m:=by
 refine⟨ZhS (h 0 (zs[0]'h0) (List.getElem?_eq_getElem h0)),zs.map fun z=>Value.int k z,fun j u hu=> ?_,fun ρ=>by rw [hl];exact Zlo ρ k zs⟩;rw [List.getElem?_map] at hu;obtain⟨z,hz,rfl⟩:=Option.map_eq_some_iff.1 hu;exact h j z hz
def ZgO:List Int:=(List.range 16).flatMap fun i=>[(Lib.accLo i:Int),(Lib.accHi i:Int)]
theorem acc_at:∀j,j<32→ZgO[j]? =some (if j % 2=0 then(Lib.accLo (j / 2):Int) else(Lib.accHi (j / 2):Int)):=by decide+kernel
theorem ZrF:glL[1]? =some (1,Lib.firstTab.map fun z=> .i .u8 z):=by decide+kernel
theorem ZrE:glL[2]? =some (2,ZgO.map fun z=> .i .u8 z):=by decide+kernel
theorem glL_db:glL[3]? =some (4,dbL):=by decide+kernel
theorem ZrG:glL.length=4:=rfl
theorem Zt1 {w:World} {fuel:Nat} {cs:List Value} {l:List UInt8} {z:Int} {q:List MemPlace}
 (h:DataW.trod (fun _=>()) Tryz.prog w 0 (fun _=>true) false fuel 107 cs=some (.agg [.lit (.string l),.lit (.int .i64 z)],q)):cs[0]? =some (.string (Bs l))∧cs[1]? =some (.int .i64 z):=by
 obtain⟨xs,n,rfl,hx,hl,hxl,hall⟩:=DataW.trod_struct Tryz.underlying107 h;have hxs:=congrArg Prod.fst hx;simp only [DataW.agg.injEq] at hxs
 match xs,hxl,hxs with
 |[x0,x1],_,hxs=>
  simp only [List.map_cons,List.map_nil,List.cons.injEq,and_true] at hxs;have h0:DataW.trod (fun _=>()) Tryz.prog w 0 (fun _=>true) false n 9 ((cs.drop 0).take (Tryz.prog.cellsOf 9))=some x0:=hall 0 _ rfl;have h1:DataW.trod (fun _=>()) Tryz.prog w 0 (fun _=>true) false n 37 ((cs.drop 1).take (Tryz.prog.cellsOf 37))=some x1:=hall 1 _ rfl;rw [show Tryz.prog.cellsOf 9=1 by kernel_rfl] at h0;obtain⟨s,e0,e1,_⟩:=DataW.trod_string Tryz.underlying9 h0;rw [show Tryz.prog.cellsOf 37=1 by kernel_rfl] at h1;obtain⟨n1,f0,f1,_⟩:=DataW.trod_int Tryz.underlying37 h1;subst e1 f1;obtain⟨g0,g1⟩:=hxs;injection g0 with g0;injection g0 with g0
  injection g1 with g1;injection g1 with _ g1
  subst g1;have k0:=congrArg (·[0]?) e0;have k1:=congrArg (·[0]?) f0;simp only [List.getElem?_take,List.getElem?_drop] at k0 k1;have hs:Bs l=s:=by rw [g0];rfl
  rw [hs];exact⟨by simpa using k0,by simpa using k1⟩
theorem starts_reads {w:World} (h:Lib.VarReads Tryz.prog w "diacritic/sniff.starts" Rows.laid_diacritic_sniff_starts):
 ∃m:List Value,(∀j u,m[j]? =some u→w.cell? ⟨0,j,none⟩=some u)∧m=[.string (Bs [73,68,51]),.int .i64 1,.string (Bs [79,103,103,83]),.int .i64 2,.string (Bs [102,76,97,67]),.int .i64 3]:=by
 obtain⟨g,t,cs,fuel,p,hg,hty,hvar,hd⟩:=h;obtain rfl:=Option.some.inj ((show Tryz.prog.globalNamed "diacritic/sniff.starts" =some 0 by kernel_rfl).symm.trans hg);obtain rfl:=Option.some.inj ((show(Tryz.prog.globals[0]?).map (·.type)=some 108 by kernel_rfl).symm.trans hty);have hc:Tryz.prog.cellsOf 107=2:=by kernel_rfl
 have H:∀i l z,i<3→([([73,68,51],1),([79,103,103,83],2),([102,76,97,67],3)]:List (List UInt8×Int))[i]? =some (l,z)→w.cell? ⟨0,2*i,none⟩=some (.string (Bs l))∧w.cell? ⟨0,2*i+1,none⟩=some (.int .i64 z):=fun i l z hi hl=>by
  obtain⟨fuel',d,q,hdi,he⟩:=Lib.array_elem Tryz.underlying108 hd i hi;have hd2:d= .agg [.lit (.string l),.lit (.int .i64 z)]:=by
   match i,hi with
   |0,_=>cases hl;exact(Option.some.inj hdi).symm
   |1,_=>cases hl;exact(Option.some.inj hdi).symm
   |2,_=>cases hl;exact(Option.some.inj hdi).symm
  subst hd2;rw [hc] at he;obtain⟨h0,h1⟩:=Zt1 he;simp only [List.getElem?_take,List.getElem?_drop] at h0 h1;rw [World.var?_cell hg hvar (2*i),World.var?_cell hg hvar (2*i+1),←Array.getElem?_toList,←Array.getElem?_toList];exact⟨by simpa [Nat.mul_comm] using h0,by simpa [Nat.mul_comm] using h1⟩
 refine⟨_,fun j u hu=> ?_,rfl⟩
 match j,hu with
 |0,hu=>rw [←hu];exact(H 0 _ _ (by decide) rfl).1
 |1,hu=>rw [←hu];exact(H 0 _ _ (by decide) rfl).2
 |2,hu=>rw [←hu];exact(H 1 _ _ (by decide) rfl).1
 |3,hu=>rw [←hu];exact(H 1 _ _ (by decide) rfl).2
 |4,hu=>rw [←hu];exact(H 2 _ _ (by decide) rfl).1
 |5,hu=>rw [←hu];exact(H 2 _ _ (by decide) rfl).2
 |j+6,hu=>cases hu
theorem gl_of {w:World} (hT:Zj w)(hD:DB w)(hM:ML w)(hs:Lib.VarReads Tryz.prog w "diacritic/sniff.starts" Rows.laid_diacritic_sniff_starts):Gl w where
 tb:=hT
 ml:=⟨by obtain⟨m,hm⟩:=hM;exact ZhS hm,hM⟩
 ls:=fun x hx=>by
  obtain⟨i,hi⟩:=List.getElem?_of_mem hx;have hi4:i<4:=by
   have:=(List.getElem?_eq_some_iff.1 hi).1;rw [ZrG] at this;exact this
  match i,hi4,hi with
  |0,_,hi=>
   obtain⟨m,h1,hm⟩:=starts_reads hs;have hx0:x=(0,[.s [73,68,51],.i .i64 1,.s [79,103,103,83],.i .i64 2,.s [102,76,97,67],.i .i64 3]):=(Option.some.inj hi).symm;rw [hx0];refine⟨ZhS (h1 0 _ (by rw [hm];rfl)),m,h1,fun ρ=> ?_⟩;rw [hm];exact⟨rfl,rfl,rfl,rfl,rfl,rfl,trivial⟩
  |1,_,hi=>
   obtain rfl:=Option.some.inj (ZrF.symm.trans hi);refine Zej.ls rfl (by decide) fun j z hz=> ?_;unfold Lib.firstTab at hz;rw [List.getElem?_map] at hz;obtain⟨c,hc,rfl⟩:=Option.map_eq_some_iff.1 hz;obtain⟨hlt,hv⟩:=List.getElem?_eq_some_iff.1 hc;simp only [List.length_range,List.getElem_range] at hlt hv;subst hv;exact hT.1 j hlt
  |2,_,hi=>
   obtain rfl:=Option.some.inj (ZrE.symm.trans hi);refine Zej.ls rfl (by decide) fun j z hz=> ?_;have hj:j<32:=by
    have:=(List.getElem?_eq_some_iff.1 hz).1;rw [show ZgO.length=32 from rfl] at this;exact this
   rw [acc_at j hj,Option.some.injEq] at hz;have h2:=hT.2 (j / 2) (by omega);by_cases he:j % 2=0
   · rw [if_pos he] at hz;subst hz;have:=h2.1;rw [show 2*(j / 2)=j by omega] at this;exact this
   · rw [if_neg he] at hz;subst hz;have:=h2.2;rw [show 2*(j / 2)+1=j by omega] at this;exact this
  |3,_,hi=>
   obtain rfl:=Option.some.inj (glL_db.symm.trans hi);refine Zej.ls (zs:=Zes) (by unfold dbL Zes;rw [List.map_map];rfl) (by decide) fun j z hz=> ?_;unfold Zes at hz;rw [List.getElem?_map] at hz;obtain⟨n,hn,rfl⟩:=Option.map_eq_some_iff.1 hz;have hlt:=(List.getElem?_eq_some_iff.1 hn).1;have h:=hD j hlt;rw [List.getD_eq_getElem?_getD,hn] at h;exact h
  |i+4,h,_=>omega
end Ev
end Go.Proofs.YtlfinljfghhpdaaGreatDoor
namespace Go.Proofs.YtlfinljfghhpdaaGreatDoor
open Go Go.Proofs Go.ChangeShapes Go.WideShapes Go.ChangeAt Go.RowKit
theorem ZrH:Tryz.prog.funcs.any Func.goes=false:=by kernel_rfl
theorem ZrI (P:Program)(f:String)(h:P.funcs.any Func.goes=false):false=P.goesFrom f:=by
 have h1:∀g:FuncId,(P.funcs[g]?).any Func.goes=false:=by
  intro g;cases hg:P.funcs[g]? with
  |none=>rfl
  |some fn=>
   rw [Array.any_eq_false] at h;obtain⟨hlt,e⟩:=Array.getElem?_eq_some_iff.1 hg;have:=h g hlt;rw [e] at this;simpa using this
 unfold Program.goesFrom;cases P.funcNamed f with
 |none=>rfl
 |some k=>
  simp only [Option.any_some,Program.goes,h,Bool.and_false,Bool.or_false];rw [eq_comm,List.any_eq_false];intro g _;rw [h1 g];decide
end Go.Proofs.YtlfinljfghhpdaaGreatDoor
