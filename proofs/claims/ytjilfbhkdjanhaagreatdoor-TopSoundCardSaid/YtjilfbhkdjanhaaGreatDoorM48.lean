/- Lemmas for a statement on the tops; conditions: as each says. -/
import Derived.Test.YtjilfbhkdjanhaaGreatDoorCards
import Derived.Test.YtjilfbhkdjanhaaGreatDoorTie
import Derived.Lib.LaidU8
import Derived.Lay
import Derived.LaidMore
import Derived.MakeChecks
import Derived.ProofKit
import Derived.OpenShut
import Derived.Deep.DeepHandedRow
import Derived.Deep.DeepWitnessRowRef
import Derived.Lib.LaidTab
import Derived.Test.YtjilfbhkdjanhaaGreatDoorM38
set_option linter.all false
set_option maxRecDepth 100000
set_option maxHeartbeats 40000000
open Go.Proofs.Tryz
namespace Go.Proofs.YtjilfbhkdjanhaaGreatDoor
open Go Go.Proofs Go.ChangeShapes Go.WideShapes Go.ChangeAt Go.RowKit
def Zvw:ownKnob prog.godebug=none:=by kernel_rfl
def ZuG:laidOutB prog=true:=by kernel_rfl
section
variable {H:Type} {enc:TypeId×Value->H} {P:Program}
theorem ZlV(N:laidOutB P=true){W O:World}(hb:Below W.heap.size W O){L:Nat->Bool}:
 ∀{ts:List TypeId} {I:List Value} {J:List (DataW H)} {ps:List MemPlace},(ts.all λt=>P.readableRec t&&decide (t<P.types.size))=true->
  (∀x∈ps,x.block<W.heap.size)->(∀x∈ps,L x.block=true)->DataW.TrodAll enc P W 0 (λ_=>true) true ts I J ps->DataW.TrodAll enc P O 0 L true ts I J ps
 |[],_,_,_,_,_,_,h=>by
  obtain⟨rfl,rfl,rfl⟩:=trodAll_nil h;exact trodAll_mk0
 |t::ts,_,_,_,D,C,y,h=>by
  obtain⟨v,I,d,J,p,q,rfl,rfl,rfl,hd,u⟩:=trodAll_cons h;simp only[List.all_cons,Bool.and_eq_true,decide_eq_true_eq] at D;exact trodAll_cons_mk (WideElems.Trod_stays N D.1.1 D.1.2 hd (λx j=>hb.same (C x (by simp[j]))) (λx j=>y x (by simp[j])))
   (ZlV N hb D.2 (λx j=>C x (by simp[j])) (λx j=>y x (by simp[j])) u)
theorem ZvP{f:Func}{s:ChangeSpec}{apart fresh y O:Bool}{W W':World}{args:Array Value}{N:List (DataW H)}{j:List MemPlace}
 (hl:laidOutB P=true) (hv:s.vars=[]) (hr:(f.params.toList.all λt=>P.readableRec t&&decide (t<P.types.size))=true)
 (I:f.resultTypes=#[4]) (h4:P.underlying 4=some .bool)
 (hW:DataW.Whole enc P f.params.toList s.vars apart W args.toList N [] j)
 (L:s.fn H (N++[])={results:=[.lit (.bool true)],args:=N}) (hb:Below W.heap.size W W'):
 s.post enc P f apart fresh y O W args (.bool true) W':=by
 have aa:=hW;have D:∀p∈j,p.block<W.heap.size:=λp hp=>hW.lt p hp;obtain⟨p,q,hA,hV,rfl,hz,hn⟩:=hW;rw[hv] at hV;obtain⟨_,rfl⟩:=trodVars_none hV;simp only[List.append_nil] at D hz hn aa;have J:∀C:Nat->Bool,(∀x∈p,C x.block=true)->DataW.TrodAll enc P W' 0 C true f.params.toList args.toList (s.fn H (N++[])).args p:=λC h=>by
  rw[L];exact ZlV hl hb hr D h hA
 have X:∀(b:Nat) (C:Nat->Bool) (hd:Bool),DataW.TrodAll enc P W' b C hd f.resultTypes.toList ((Value.bool true).resultList f.resultTypes.size) (s.fn H (N++[])).results []:=λb C hd=>by
  rw[L,I];exact trodAll_mk1 (shut_bool h4 _)
 have u:∀C:Nat->Bool,DataW.TrodVars enc P W' C s.vars (s.fn H (N++[])).vars []:=λC=>by
  rw[L,hv];rfl
 have Y:∀x∈p,(λb=>decide (b<W.heap.size)) x.block=true:=λx U=>by simpa using D x U
 refine⟨N,[],p,[],p,[],aa,X _ _ _,J _ Y,u _,World.keptBut_mono (λx U=>⟨U,Or.inr (by simpa using U)⟩) (hb.frame (· ∈p)),λ_=>?_⟩;refine⟨ok_one I rfl (okWide_bool_mk h4 _),_,_,([]++p)++[],⟨[]++p,[],trodAll_append (J _ (λ_ _=>rfl)) (X _ _ _),u _,rfl,?_,?_⟩,?_⟩
 ·intro b V hp;have Z:MemPlace.cell b V∈p:=by simpa using hp
  rw[hb.frozen (D _ Z)];exact hz b V Z
 ·intro ha;simpa using hn ha
 ·intro x U _;simpa using U
end
def ZtX:Rows.laid_unicode_utf8_first=Lib.firstData:=by kernel_rfl
def ZsC:(Rows.laid_unicode_utf8_acceptRanges:DataW Unit)=Lib.acceptData:=by kernel_rfl
def ZwV{l:List (String×DataW Unit)}{W:World}(h:laidMetH prog l W)(u:(l.all λx=>x.2.handleName?.isNone)=true)
 (q:("unicode/utf8.first",Rows.laid_unicode_utf8_first)∈l) (j:("unicode/utf8.acceptRanges",Rows.laid_unicode_utf8_acceptRanges)∈l):Zo W:=by
 rw[MakeChecks.laidMetH_plain _ _ _ u] at h;rw[ZtX] at q;rw[ZsC] at j;exact utf8Tabs_of_reads (ρ:=lays260_ren) {lays260 with} ⟨by kernel_rfl,by kernel_rfl,by kernel_rfl,by kernel_rfl,by kernel_rfl,by kernel_rfl,by kernel_rfl⟩
  (Lib.laidMet.reads h q) (Lib.laidMet.reads h j)
def Zf0:List Int:=Lib.deBruijn32tab.map λn:Nat=>(n:Int)
def Ztj:(Rows.laid_math_bits_deBruijn32tab:DataW Unit)=Lib.tabData .u8 Zf0:=by kernel_rfl
def Ztk{l:List (String×DataW Unit)}{W:World}(h:laidMetH prog l W)(J:(l.all λx=>x.2.handleName?.isNone)=true)
 (D:("math/bits.deBruijn32tab",Rows.laid_math_bits_deBruijn32tab)∈l):DB W:=by
 rw[MakeChecks.laidMetH_plain _ _ _ J] at h;rw[Ztj] at D;obtain⟨g,t,cs,I,p,C,u,q,hd⟩:=Lib.laidMet.reads h D;obtain rfl:=Option.some.inj ((show prog.globalNamed "math/bits.deBruijn32tab" =some 4 by kernel_rfl).symm.trans C);obtain rfl:=Option.some.inj ((show(prog.globals[4]?).map (·.type)=some 390 by kernel_rfl).symm.trans u);have y:=Lib.cells_of_tab underlying390 underlying5 (by kernel_rfl) (by kernel_rfl) hd;intro j L;rw[World.var?_cell C q j,<-Array.getElem?_toList,y];simp[Zf0,List.getD,L]
open Go Go.Proofs Go.RowKit
namespace Ev
def Zjr{w:World}{b j:Nat}{v:Value}(h:w.cell? ⟨b,j,none⟩=some v):b<w.heap.size:=by
 by_cases q:b<w.heap.size
 ·exact q
 ·rw[World.cell?] at h;simp[Array.getElem?_eq_none (Nat.le_of_not_lt q)] at h
def Znh(ρ:Rho)(k:IntKind):∀zs:List Int,LR ρ (zs.map λz=>.i k z) (zs.map λz=>Value.int k z)
 |[]=>trivial
 |_::zs=>⟨rfl,Znh ρ k zs⟩
def ZfH(w:World)(g:Nat)(k:IntKind)(zs:List Int):Prop:=∀(j:Nat) (z:Int),zs[j]?=some z->w.cell? ⟨g,j,none⟩=some (.int k z)
def ZfH.ls{w:World}{g:Nat}{k:IntKind}{zs:List Int}{l:List Cl}(C:l=zs.map λz=>.i k z)(h0:0<zs.length)(h:ZfH w g k zs):g<w.heap.size/\∃m:List Value,(∀j u,m[j]?=some u->w.cell? ⟨g,j,none⟩=some u)/\∀ρ,LR ρ l m:=by
 refine⟨Zjr (h 0 (zs[0]'h0) (List.getElem?_eq_getElem h0)),zs.map λz=>Value.int k z,λj u q=>?_,λρ=>by rw[C];exact Znh ρ k zs⟩;rw[List.getElem?_map] at q;obtain⟨z,y,rfl⟩:=Option.map_eq_some_iff.1 q;exact h j z y
def Ziy:List Int:=(List.range 16).flatMap λi=>[(Lib.accLo i:Int),(Lib.accHi i:Int)]
def acc_at:∀j,j<32->Ziy[j]?=some (if j % 2=0 then(Lib.accLo (j / 2):Int) else(Lib.accHi (j / 2):Int)):=by decide+kernel
def Zt9:glL[1]?=some (1,Lib.firstTab.map λz=>.i .u8 z):=by decide+kernel
def Zt8:glL[2]?=some (2,Ziy.map λz=>.i .u8 z):=by decide+kernel
def glL_db:glL[3]?=some (4,dbL):=by decide+kernel
def Zua:glL.length=4:=rfl
def ZwJ{w:World}{C:Nat}{cs:List Value}{l:List UInt8}{z:Int}{q:List MemPlace}
 (h:DataW.trod (λ_=>()) prog w 0 (λ_=>true) false C 130 cs=some (.agg [.lit (.string l),.lit (.int .i64 z)],q)):cs[0]?=some (.string (Bs l))/\cs[1]?=some (.int .i64 z):=by
 obtain⟨xs,n,rfl,U,Z,D,u⟩:=DataW.trod_struct underlying130 h;have j:=congrArg Prod.fst U;simp only[DataW.agg.injEq] at j
 match xs,D,j with
 |[O,N],_,j=>
  simp only[List.map_cons,List.map_nil,List.cons.injEq,and_true] at j;have h0:DataW.trod (λ_=>()) prog w 0 (λ_=>true) false n 9 ((cs.drop 0).take (prog.cellsOf 9))=some O:=u 0 _ rfl;have L:DataW.trod (λ_=>()) prog w 0 (λ_=>true) false n 22 ((cs.drop 1).take (prog.cellsOf 22))=some N:=u 1 _ rfl;rw[show prog.cellsOf 9=1 by kernel_rfl] at h0;obtain⟨s,e0,X,_⟩:=DataW.trod_string underlying9 h0;rw[show prog.cellsOf 22=1 by kernel_rfl] at L;obtain⟨Y,W,V,_⟩:=DataW.trod_int underlying22 L;subst X V;obtain⟨g0,y⟩:=j;injection g0 with g0;injection g0 with g0
  injection y with y;injection y with _ y
  subst y;have J:=congrArg (·[0]?) e0;have I:=congrArg (·[0]?) W;simp only[List.getElem?_take,List.getElem?_drop] at J I;have hs:Bs l=s:=by rw[g0];rfl
  rw[hs];exact⟨by simpa using J,by simpa using I⟩
def starts_reads{w:World}(h:Lib.VarReads prog w "diacritic/sniff.starts" Rows.laid_diacritic_sniff_starts):
 ∃m:List Value,(∀j u,m[j]?=some u->w.cell? ⟨0,j,none⟩=some u)/\m=[.string (Bs [73,68,51]),.int .i64 1,.string (Bs [79,103,103,83]),.int .i64 2,.string (Bs [102,76,97,67]),.int .i64 3]:=by
 obtain⟨g,t,cs,W,p,L,I,C,hd⟩:=h;obtain rfl:=Option.some.inj ((show prog.globalNamed "diacritic/sniff.starts" =some 0 by kernel_rfl).symm.trans L);obtain rfl:=Option.some.inj ((show(prog.globals[0]?).map (·.type)=some 131 by kernel_rfl).symm.trans I);have X:prog.cellsOf 130=2:=by kernel_rfl
 have H:∀i l z,i<3->([([73,68,51],1),([79,103,103,83],2),([102,76,97,67],3)]:List (List UInt8×Int))[i]?=some (l,z)->w.cell? ⟨0,2*i,none⟩=some (.string (Bs l))/\w.cell? ⟨0,2*i+1,none⟩=some (.int .i64 z):=λi l z U J=>by
  obtain⟨O,d,q,D,he⟩:=Lib.array_elem underlying131 hd i U;have N:d=.agg [.lit (.string l),.lit (.int .i64 z)]:=by
   match i,U with
   |0,_=>cases J;exact(Option.some.inj D).symm
   |1,_=>cases J;exact(Option.some.inj D).symm
   |2,_=>cases J;exact(Option.some.inj D).symm
  subst N;rw[X] at he;obtain⟨h0,V⟩:=ZwJ he;simp only[List.getElem?_take,List.getElem?_drop] at h0 V;rw[World.var?_cell L C (2*i),World.var?_cell L C (2*i+1),<-Array.getElem?_toList,<-Array.getElem?_toList];exact⟨by simpa[Nat.mul_comm] using h0,by simpa[Nat.mul_comm] using V⟩
 refine⟨_,λj u y=>?_,rfl⟩
 match j,y with
 |0,y=>rw[<-y];exact(H 0 _ _ (by decide) rfl).1
 |1,y=>rw[<-y];exact(H 0 _ _ (by decide) rfl).2
 |2,y=>rw[<-y];exact(H 1 _ _ (by decide) rfl).1
 |3,y=>rw[<-y];exact(H 1 _ _ (by decide) rfl).2
 |4,y=>rw[<-y];exact(H 2 _ _ (by decide) rfl).1
 |5,y=>rw[<-y];exact(H 2 _ _ (by decide) rfl).2
 |j+6,y=>cases y
def gl_of{w:World}(hT:Zo w)(X:DB w)(L:ML w)(hs:Lib.VarReads prog w "diacritic/sniff.starts" Rows.laid_diacritic_sniff_starts):Gl w where
 tb:=hT
 ml:=⟨by obtain⟨m,C⟩:=L;exact Zjr C,L⟩
 ls:=λx U=>by
  obtain⟨i,u⟩:=List.getElem?_of_mem U;have I:i<4:=by
   have:=(List.getElem?_eq_some_iff.1 u).1;rw[Zua] at this;exact this
  match i,I,u with
  |0,_,u=>
   obtain⟨m,O,C⟩:=starts_reads hs;have D:x=(0,[.s [73,68,51],.i .i64 1,.s [79,103,103,83],.i .i64 2,.s [102,76,97,67],.i .i64 3]):=(Option.some.inj u).symm;rw[D];refine⟨Zjr (O 0 _ (by rw[C];rfl)),m,O,λρ=>?_⟩;rw[C];exact⟨rfl,rfl,rfl,rfl,rfl,rfl,trivial⟩
  |1,_,u=>
   obtain rfl:=Option.some.inj (Zt9.symm.trans u);refine ZfH.ls rfl (by decide) λj z q=>?_;unfold Lib.firstTab at q;rw[List.getElem?_map] at q;obtain⟨c,W,rfl⟩:=Option.map_eq_some_iff.1 q;obtain⟨y,J⟩:=List.getElem?_eq_some_iff.1 W;simp only[List.length_range,List.getElem_range] at y J;subst J;exact hT.1 j y
  |2,_,u=>
   obtain rfl:=Option.some.inj (Zt8.symm.trans u);refine ZfH.ls rfl (by decide) λj z q=>?_;have V:j<32:=by
    have:=(List.getElem?_eq_some_iff.1 q).1;rw[show Ziy.length=32 from rfl] at this;exact this
   rw[acc_at j V,Option.some.injEq] at q;have N:=hT.2 (j / 2) (by omega);by_cases he:j % 2=0
   ·rw[if_pos he] at q;subst q;have:=N.1;rw[show 2*(j / 2)=j by omega] at this;exact this
   ·rw[if_neg he] at q;subst q;have:=N.2;rw[show 2*(j / 2)+1=j by omega] at this;exact this
  |3,_,u=>
   obtain rfl:=Option.some.inj (glL_db.symm.trans u);refine ZfH.ls (zs:=Zf0) (by unfold dbL Zf0;rw[List.map_map];rfl) (by decide) λj z q=>?_;unfold Zf0 at q;rw[List.getElem?_map] at q;obtain⟨n,hn,rfl⟩:=Option.map_eq_some_iff.1 q;have y:=(List.getElem?_eq_some_iff.1 hn).1;have h:=X j y;rw[List.getD_eq_getElem?_getD,hn] at h;exact h
  |i+4,h,_=>omega
end Ev
open Go Go.Proofs Go.ChangeShapes Go.WideShapes Go.ChangeAt Go.RowKit
def Zub:prog.funcs.any Func.goes=false:=by kernel_rfl
def Zuc(P:Program)(f:String)(h:P.funcs.any Func.goes=false):false=P.goesFrom f:=by
 have u:∀g:FuncId,(P.funcs[g]?).any Func.goes=false:=by
  intro g;cases q:P.funcs[g]? with
  |none=>rfl
  |some fn=>
   rw[Array.any_eq_false] at h;obtain⟨j,e⟩:=Array.getElem?_eq_some_iff.1 q;have:=h g j;rw[e] at this;simpa using this
 unfold Program.goesFrom;cases P.funcNamed f with
 |none=>rfl
 |some k=>
  simp only[Option.any_some,Program.goes,h,Bool.and_false,Bool.or_false];rw[eq_comm,List.any_eq_false];intro g _;rw[u g];decide
