/- Lemmas for a statement on the tops; conditions: as each says. -/
import Derived.Laws.StructEq
import Derived.Test.YtlfinljfghhpdaaGreatDoorM1
import Derived.Test.YtlfinljfghhpdaaGreatDoorM11
import Derived.Test.YtlfinljfghhpdaaGreatDoorM12
set_option linter.unusedVariables false
set_option linter.unusedSimpArgs false
set_option maxRecDepth 100000
set_option maxHeartbeats 200000
namespace Go.Proofs.YtlfinljfghhpdaaGreatDoor
open Go
namespace Ev
def Tr.ofL {α:Type}:List (Nat×α)→Tr α
 |[]=> .lf
 |x::l=>Tr.put x.2 20 x.1 (Tr.ofL l)
theorem Tr.get_put {α:Type} (x:α){y:α}:∀(f n:Nat) (tr:Tr α) (m g:Nat),(Tr.put x f n tr).get m g=some y→(m=n∧y=x)∨tr.get m g=some y
 |0,n,tr,m,g,h=>by simp [Tr.put,Tr.get_lf] at h
 |f+1,n,.lf,m,g,h=>by
  left
  simp only [Tr.put] at h;by_cases hn:n=0
  · rw [if_pos hn] at h;simp only [Tr.get_nd] at h;by_cases hm:m=0
    · rw [if_pos hm] at h;injection h with h
      exact⟨by omega,h.symm⟩
    · rw [if_neg hm] at h;cases g with
      |zero=>cases h
      |succ g=>simp [Tr.get_lf] at h
  · rw [if_neg hn] at h;by_cases h2:n % 2=0
    · rw [if_pos h2] at h;simp only [Tr.get_nd] at h;by_cases hm:m=0
      · rw [if_pos hm] at h;cases h
      · rw [if_neg hm] at h;cases g with
        |zero=>cases h
        |succ g=>
         simp only at h;by_cases h3:m % 2=0
         · rw [if_pos h3] at h;rcases Tr.get_put x f (n / 2) .lf (m / 2) g h with⟨e1,e2⟩|h
           · exact⟨by omega,e2⟩
           · simp [Tr.get_lf] at h
         · rw [if_neg h3] at h;simp [Tr.get_lf] at h
    · rw [if_neg h2] at h;simp only [Tr.get_nd] at h;by_cases hm:m=0
      · rw [if_pos hm] at h;cases h
      · rw [if_neg hm] at h;cases g with
        |zero=>cases h
        |succ g=>
         simp only at h;by_cases h3:m % 2=0
         · rw [if_pos h3] at h;simp [Tr.get_lf] at h
         · rw [if_neg h3] at h;rcases Tr.get_put x f (n / 2) .lf (m / 2) g h with⟨e1,e2⟩|h
           · exact⟨by omega,e2⟩
           · simp [Tr.get_lf] at h
 |f+1,n,.nd l v r,m,g,h=>by
  simp only [Tr.put] at h;by_cases hn:n=0
  · rw [if_pos hn] at h;simp only [Tr.get_nd] at h⊢;by_cases hm:m=0
    · rw [if_pos hm] at h;injection h with h
      exact .inl ⟨by omega,h.symm⟩
    · rw [if_neg hm] at h⊢;exact .inr h
  · rw [if_neg hn] at h;by_cases h2:n % 2=0
    · rw [if_pos h2] at h;simp only [Tr.get_nd] at h⊢;by_cases hm:m=0
      · rw [if_pos hm] at h⊢;exact .inr h
      · rw [if_neg hm] at h⊢;cases g with
        |zero=>cases h
        |succ g=>
         simp only at h⊢;by_cases h3:m % 2=0
         · rw [if_pos h3] at h⊢;rcases Tr.get_put x f (n / 2) l (m / 2) g h with⟨e1,e2⟩|h
           · exact .inl ⟨by omega,e2⟩
           · exact .inr h
         · rw [if_neg h3] at h⊢;exact .inr h
    · rw [if_neg h2] at h;simp only [Tr.get_nd] at h⊢;by_cases hm:m=0
      · rw [if_pos hm] at h⊢;exact .inr h
      · rw [if_neg hm] at h⊢;cases g with
        |zero=>cases h
        |succ g=>
         simp only at h⊢;by_cases h3:m % 2=0
         · rw [if_pos h3] at h⊢;exact .inr h
         · rw [if_neg h3] at h⊢;rcases Tr.get_put x f (n / 2) r (m / 2) g h with⟨e1,e2⟩|h
           · exact .inl ⟨by omega,e2⟩
           · exact .inr h
theorem Tr.ofL_mem {α:Type} {y:α}:∀{l:List (Nat×α)} {m g:Nat},(Tr.ofL l).get m g=some y→(m,y)∈l
 |[],m,g,h=>by simp [Tr.ofL,Tr.get_lf] at h
 |x::l,m,g,h=>by
  simp only [Tr.ofL] at h;rcases Tr.get_put _ _ _ _ _ _ h with⟨e1,e2⟩|h
  · subst e1 e2;exact List.mem_cons_self ..
  · exact List.mem_cons_of_mem _ (Tr.ofL_mem h)
end Ev
end Go.Proofs.YtlfinljfghhpdaaGreatDoor
namespace Go.Proofs.YtlfinljfghhpdaaGreatDoor
open Go Go.RowKit
namespace Ev
def zcB:List Cl→List Value→Bool
 |[],[]=>true
 | .b x::l,.bool y::m=>x==y&&zcB l m
 | .i k x::l,.int k' y::m=>decide (k=k')&&decide (x=y)&&zcB l m
 | .s x::l,.string y::m=>decide (x=y.data.toList)&&zcB l m
 | .zp::l,.pointer none::m=>zcB l m
 | .zs::l,.slice none 0 0::m=>zcB l m
 | .zf::l,.nilFunc::m=>zcB l m
 | .zi::l,.nilIface::m=>zcB l m
 | .zm::l,.map none::m=>zcB l m
 |_,_=>false
theorem zcB_ok (ρ:Rho):∀(l:List Cl) (m:List Value),zcB l m=true→LR ρ l m:=by
 intro l m
 fun_induction zcB l m<;>intro h<;>(try simp only [Bool.and_eq_true,decide_eq_true_eq,beq_iff_eq] at h)<;>first
  |trivial
  |(rename_i ih;obtain⟨rfl,h2⟩:=h;exact⟨rfl,ih h2⟩)
  |(rename_i ih;obtain⟨⟨rfl,rfl⟩,h2⟩:=h;exact⟨rfl,ih h2⟩)
  |(rename_i ih;obtain⟨rfl,h2⟩:=h;exact⟨congrArg Value.string (by simp [Bs]),ih h2⟩)
  |(rename_i ih;exact⟨rfl,ih h⟩)
  |cases h
def tkB (P:Program):TK→TypeDesc→Bool
 | .int k,.int k'=>decide (k=k')
 | .bl,.bool=>true
 | .str,.string=>true
 | .ptr e,.pointer e'=>e==e'
 | .sl e,.slice e'=>e==e'
 | .ar n e,.array n' e'=>n==n'&&e==e'
 | .mp k e,.map k' e'=>k==k'&&e==e'
 | .fn,.func _ _ _=>true
 | .st fs,.struct fields=>decide (fs=fields.toList.map (fun f=>(f.type,f.offset,P.cellsOf f.type)))&&fields.toList.all (fun f=>(P.info? f.type).isSome)
 |_,_=>false
theorem tkB_ok {P:Program} {k:TK} {d:TypeDesc} (h:tkB P k d=true):TKok P k d:=by
 unfold tkB at h;split at h<;>first
  |(cases h;done)
  |trivial
  |(simp only [decide_eq_true_eq] at h;exact h)
  |(simp only [beq_iff_eq] at h;exact h)
  |(simp only [Bool.and_eq_true,beq_iff_eq] at h;exact h)
  |(simp only [Bool.and_eq_true,decide_eq_true_eq] at h
    exact⟨h.1,fun f hf=>List.all_eq_true.1 h.2 f (by simpa using hf)⟩)
def zB (k:TK):Value→Bool
 | .agg _=>k.agg
 |_=> !k.agg
def tyB (P:Program)(t:Nat)(ti:TI):Bool:=match P.info? t,P.underlying t with
 |some info,some d=>info.size==ti.size&&(info.bytes==ti.bytes&&(tkB P ti.k d&&(ti.zero.length==ti.size&&(match info.zero with
  |some z=>zcB ti.zero z.cells.toList&&zB ti.k z
  |none=>false))))
 |_,_=>false
theorem tyB_ok {P:Program} {t:Nat} {ti:TI} (h:tyB P t ti=true):TyOk P t ti:=by
 unfold tyB at h;split at h
 · rename_i info d h1 h2
   simp only [Bool.and_eq_true,beq_iff_eq] at h;obtain⟨h3,h4,h5,h6,h7⟩:=h;split at h7
   · rename_i z hz
     simp only [Bool.and_eq_true] at h7;refine⟨⟨info,d,z,h1,h2,h3,h4,tkB_ok h5,hz,fun ρ=>zcB_ok ρ _ _ h7.1,fun ha=> ?_,fun ha m=> ?_⟩,h6⟩
     · have h8:=h7.2;cases z<;>simp only [zB,ha,Bool.not_true] at h8<;>first|(cases h8;done)|exact⟨_,rfl⟩
     · rintro rfl;have h8:=h7.2;simp [zB,ha] at h8
   · cases h7
 · cases h
noncomputable def tyT:Tr TI:=Tr.ofL tyL
noncomputable def fnT:Tr Func:=Tr.ofL fnL
theorem tyL_ok:(tyL.all fun x=>tyB Tryz.prog x.1 x.2)=true:=by decide+kernel
theorem fnL_nm:(fnL.all fun x=> !(x.2.name== "runtime.NumGoroutine"))=true:=by decide+kernel
theorem Znv {t:Nat} {ti:TI} (h:tyT.get t 20=some ti):TyOk Tryz.prog t ti:=tyB_ok (List.all_eq_true.1 tyL_ok _ (Tr.ofL_mem h))
theorem Zsr:Tryz.prog.follows .mixedOrders=true:=by decide+kernel
end Ev
namespace Ev
def Zew (P:Program)(rc:Nat→List Cl→Bool):List Field→Nat→List Cl→Bool
 |[],_,z=>z.isEmpty
 |f::fs,off,z=>f.name != "_" &&(f.offset==off&&((P.info? f.type).isSome&&(decide (P.cellsOf f.type≤z.length)&&(rc f.type (z.take (P.cellsOf f.type))&&Zew P rc fs (off+P.cellsOf f.type) (z.drop (P.cellsOf f.type))))))
def ZdW (P:Program):Nat→Nat→List Cl→Bool
 |0,_,_=>false
 |d+1,t,z=>match P.underlying t with
  |some (.int _)=>(match z with|[.i _ _]=>true|_=>false)
  |some .bool=>(match z with|[.b _]=>true|_=>false)
  |some .string=>(match z with|[.s _]=>true|_=>false)
  |some (.struct fs)=> !P.stoodInHeld t&&Zew P (ZdW P d) fs.toList 0 z
  |_=>false
theorem ZcJ:∀{z l:List Cl},shp z l=true→z.length=l.length
 |[],[],_=>rfl
 | .b _::z,.b _::l,h=>by simp [ZcJ (z:=z) (l:=l) (by simpa [shp] using h)]
 | .i _ _::z,.i _ _::l,h=>by simp [ZcJ (z:=z) (l:=l) (by simp [shp] at h;exact h.2)]
 | .s _::z,.s _::l,h=>by simp [ZcJ (z:=z) (l:=l) (by simpa [shp] using h)]
 |z,l,h=>by
  unfold shp at h;split at h<;>first|rfl|(cases h;done)|(simp only [Bool.and_eq_true] at h;simp [ZcJ h.2])|simp [ZcJ h]
theorem ZeN:∀(n:Nat) {z l:List Cl},shp z l=true→shp (z.take n) (l.take n)=true∧shp (z.drop n) (l.drop n)=true
 |0,z,l,h=>by simpa [shp] using h
 |n+1,z,l,h=>by
  unfold shp at h;split at h
  · simp [shp]
  · simpa [shp] using ZeN n h
  · simp only [Bool.and_eq_true] at h;have:=ZeN n h.2;simp only [List.take_succ_cons,List.drop_succ_cons,shp,h.1,this.1,this.2,Bool.and_self,and_self]
  · simpa [shp] using ZeN n h
  · cases h
def nrow:TypeDesc→Bool
 | .struct _=>false
 | .array _ _=>false
 |_=>true
theorem shp_i {k:IntKind} {n:Int}:∀{l:List Cl},shp [.i k n] l=true→∃n',l=[.i k n']
 |[],h=>by simp [shp] at h
 |x::l,h=>by
  cases x<;>simp [shp] at h
  obtain⟨rfl,h⟩:=h;cases l with
  |nil=>exact⟨_,rfl⟩
  |cons y l=>simp [shp] at h
theorem shp_b {n:Bool}:∀{l:List Cl},shp [.b n] l=true→∃n',l=[.b n']
 |[],h=>by simp [shp] at h
 |x::l,h=>by
  cases x<;>simp [shp] at h
  cases l with
  |nil=>exact⟨_,rfl⟩
  |cons y l=>simp [shp] at h
theorem shp_s {n:List UInt8}:∀{l:List Cl},shp [.s n] l=true→∃n',l=[.s n']
 |[],h=>by simp [shp] at h
 |x::l,h=>by
  cases x<;>simp [shp] at h
  cases l with
  |nil=>exact⟨_,rfl⟩
  |cons y l=>simp [shp] at h
theorem LR.single {ρ:Rho} {c:Cl}:∀{L:List Value},LR ρ [c] L→∃x,L=[x]∧VR ρ c x
 |[],h=>h.elim
 |[x],h=>⟨x,rfl,h.1⟩
 |_::_::_,h=>h.2.elim
def EqV (P:Program)(D t:Nat)(z:List Cl):Prop:=∀(l m:List Cl) (L M:List Value) (ρ:Rho),shp z l=true→shp z m=true→LR ρ l L→LR ρ m M→
 ((∃fs,P.underlying t=some (.struct fs))∧∀w,(Op.equalIn D t (.agg L.toArray) (.agg M.toArray)).run P w= .ok (decide (l=m)) w)∨
 (∃dd x y,P.underlying t=some dd∧nrow dd=true∧L=[x]∧M=[y]∧∀w,(Op.equalIn D t x y).run P w= .ok (decide (l=m)) w)
theorem Zms {P:Program} {t off:Nat} {fs:Array Field} (hu:P.underlying t=some (.struct fs))(hi:(P.info? t).isSome=true)(L:List Value)(w:World):
 (Go.part t L.toArray off).run P w= .ok (.agg ((L.drop off).take (P.cellsOf t)).toArray) w:=by
 cases hq:P.info? t with
 |none=>rw [hq] at hi;cases hi
 |some i=>
  have hagg:(isAgg t).run P w= .ok true w:=by
   simp only [isAgg,Sem.run_bind,run_und hu,Result.andThen_ok];rfl
  simp only [Go.part,Sem.run_bind,hagg,Result.andThen_ok,if_true,sizeOf,run_ti hq,Sem.run_pure];have hc:P.cellsOf t=i.size:=by simp [Program.cellsOf,hq]
  congr 2
  apply Array.ext'
  simp [hc,List.extract_eq_take_drop]
theorem Zmp {P:Program} {t off:Nat} {d:TypeDesc} (hu:P.underlying t=some d)(hd:nrow d=true){L:List Value} {x:Value} (hx:L[off]? =some x)(w:World):
 (Go.part t L.toArray off).run P w= .ok x w:=by
 have hagg:(isAgg t).run P w= .ok false w:=by
  simp only [isAgg,Sem.run_bind,run_und hu,Result.andThen_ok];cases d<;>first|rfl|cases hd
 simp [Go.part,hagg,hx]
theorem ZkO {P:Program} {D:Nat} {rc:Nat→List Cl→Bool} (hrc:∀t z,rc t z=true→EqV P D t z):∀(fs:List Field) (off:Nat) (z l m:List Cl) (L M:List Value) (ρ:Rho),Zew P rc fs off z=true→shp z (l.drop off)=true→shp z (m.drop off)=true→LR ρ l L→LR ρ m M→
 ∀w,(Op.eqFields D L.toArray M.toArray fs).run P w= .ok (decide (l.drop off=m.drop off)) w
 |[],off,z,l,m,L,M,ρ,hf,hl,hm,hL,hM,w=>by
  have hz:z=[]:=by simpa [Zew] using hf
  subst hz;have h1:l.drop off=[]:=List.eq_nil_of_length_eq_zero (ZcJ hl).symm;have h2:m.drop off=[]:=List.eq_nil_of_length_eq_zero (ZcJ hm).symm;rw [h1,h2];simp [Op.eqFields]
 |f::fs,off,z,l,m,L,M,ρ,hf,hl,hm,hL,hM,w=>by
  simp only [Zew,Bool.and_eq_true,bne_iff_ne,ne_eq,beq_iff_eq,decide_eq_true_eq] at hf;obtain⟨h1,h2,h3,h4,h5,h6⟩:=hf;obtain⟨n,hn⟩:∃n,n=P.cellsOf f.type:=⟨_,rfl⟩
  rw [←hn] at h4 h5 h6;have sl:=ZeN n hl;have sm:=ZeN n hm;rw [List.drop_drop] at sl sm;have ih:=ZkO hrc fs (off+n) (z.drop n) l m L M ρ h6 sl.2 sm.2 hL hM;have hlz:=ZcJ hl;have hmz:=ZcJ hm;have lL:=(hL.drop off).take n;have lM:=(hM.drop off).take n;have split_eq:decide (l.drop off=m.drop off)=(decide ((l.drop off).take n=(m.drop off).take n)&&decide (l.drop (off+n)=m.drop (off+n))):=by
   rw [←List.drop_drop,←List.drop_drop];generalize l.drop off=p at*;generalize m.drop off=q at*;by_cases e1:p=q
   · subst e1;simp
   · have:¬(p.take n=q.take n∧p.drop n=q.drop n):=fun⟨a,b⟩=>e1 (by rw [←List.take_append_drop n p,a,b,List.take_append_drop]);rw [decide_eq_false e1]
     symm
     rw [Bool.and_eq_false_iff];rw [Classical.not_and_iff_not_or_not] at this;rcases this with h|h
     · exact .inl (decide_eq_false h)
     · exact .inr (decide_eq_false h)
  have step:∃a b,(Go.part f.type L.toArray f.offset).run P w= .ok a w∧(Go.part f.type M.toArray f.offset).run P w= .ok b w∧(Op.equalIn D f.type a b).run P w= .ok (decide ((l.drop off).take n=(m.drop off).take n)) w:=by
   rcases hrc _ _ h5 _ _ _ _ ρ sl.1 sm.1 lL lM with⟨⟨gs,hu⟩,he⟩|⟨dd,x,y,hu,hd,ex,ey,he⟩
   · refine⟨_,_,by rw [h2];exact Zms hu h3 L w,by rw [h2];exact Zms hu h3 M w,?_⟩;rw [←hn];exact he w
   · have hx:L[off]? =some x:=by
      have:((L.drop off).take n)[0]? =some x:=by rw [ex];rfl
      rw [List.getElem?_take] at this;split at this
      · simpa using this
      · cases this
     have hy:M[off]? =some y:=by
      have:((M.drop off).take n)[0]? =some y:=by rw [ey];rfl
      rw [List.getElem?_take] at this;split at this
      · simpa using this
      · cases this
     exact⟨x,y,by rw [h2];exact Zmp hu hd hx w,by rw [h2];exact Zmp hu hd hy w,he w⟩
  obtain⟨a,b,q1,q2,q3⟩:=step;simp only [Op.eqFields,ne_eq,h1,not_false_eq_true,if_true,Sem.run_bind,q1,q2,q3,Result.andThen_ok,split_eq];cases hdec:decide ((l.drop off).take n=(m.drop off).take n)
  · simp
  · simp only [Bool.not_true,Bool.false_eq_true,if_false,ih,Bool.true_and]
theorem Zfy {P:Program}:∀(d D t:Nat) (z:List Cl),d≤D→ZdW P d t z=true→EqV P D t z
 |0,_,_,_,_,h=>by cases h
 |d+1,D,t,z,hD,h=>by
  obtain⟨D',rfl⟩:∃D',D=D'+1:=⟨D - 1,by omega⟩
  intro l m L M ρ hl hm hL hM;unfold ZdW at h;split at h
  · rename_i k hu
    right
    split at h
    · rename_i k0 n0
      obtain⟨n1,rfl⟩:=shp_i hl;obtain⟨n2,rfl⟩:=shp_i hm;obtain⟨x,rfl,e1⟩:=LR.single hL;obtain⟨y,rfl,e2⟩:=LR.single hM;simp only [VR] at e1 e2;subst e1 e2;refine⟨_,_,_,hu,rfl,rfl,rfl,fun w=> ?_⟩;rw [run_equalIn_int w D' t k0 k n1 n2 hu];congr 1
      by_cases e:n1=n2
      · subst e;simp
      · simp [e]
    · cases h
  · rename_i hu
    right
    split at h
    · obtain⟨n1,rfl⟩:=shp_b hl;obtain⟨n2,rfl⟩:=shp_b hm;obtain⟨x,rfl,e1⟩:=LR.single hL;obtain⟨y,rfl,e2⟩:=LR.single hM;simp only [VR] at e1 e2;subst e1 e2;refine⟨_,_,_,hu,rfl,rfl,rfl,fun w=> ?_⟩;rw [run_equalIn_bool w D' t n1 n2 hu];congr 1
      cases n1<;>cases n2<;>rfl
    · cases h
  · rename_i hu
    right
    split at h
    · obtain⟨n1,rfl⟩:=shp_s hl;obtain⟨n2,rfl⟩:=shp_s hm;obtain⟨x,rfl,e1⟩:=LR.single hL;obtain⟨y,rfl,e2⟩:=LR.single hM;simp only [VR] at e1 e2;subst e1 e2;refine⟨_,_,_,hu,rfl,rfl,rfl,fun w=> ?_⟩;rw [run_equalIn_string w D' t _ _ hu,Ze0,Ze0];congr 1
      by_cases e:n1=n2
      · subst e;simp
      · simp [e]
    · cases h
  · rename_i fs hu
    left
    simp only [Bool.and_eq_true,Bool.not_eq_true'] at h;refine⟨⟨fs,hu⟩,fun w=> ?_⟩;have hfo:P.fieldsOf t=fs:=by simp [Program.fieldsOf,hu]
    rw [run_equalIn_struct w D' t _ _ (by rw [hfo];exact hu) h.1,hfo];have:=ZkO (P:=P) (D:=D') (rc:=ZdW P d) (fun t z hz=>Zfy d D' t z (by omega) hz) fs.toList 0 z l m L M ρ h.2 (by simpa using hl) (by simpa using hm) hL hM w;simpa using this
  · cases h
theorem Zry {P:Program} {t:Nat} {ti:TI} (h:ZdW P 5 t ti.zero=true)(hs:∃fs,P.underlying t=some (.struct fs))(hg:P.eqGuardType P.depth t=false):Zct P t ti:=by
 intro l m L M ρ hl hm hL hM;refine⟨fun w=> ?_,hg⟩;rcases Zfy 5 10000 t ti.zero (by omega) h l m L M ρ hl hm hL hM with⟨_,he⟩|⟨dd,x,y,hu,hd,_⟩
 · exact he w
 · obtain⟨fs,hs⟩:=hs;rw [hu] at hs;injection hs with hs
   subst hs;cases hd
end Ev
namespace Ev
noncomputable section
def glL:List (Nat×List Cl):=[(0,[.s [73,68,51],.i .i64 1,.s [79,103,103,83],.i .i64 2,.s [102,76,97,67],.i .i64 3]),
 (1,[.i .u8 240,.i .u8 240,.i .u8 240,.i .u8 240,.i .u8 240,.i .u8 240,.i .u8 240,.i .u8 240,.i .u8 240,.i .u8 240,.i .u8 240,.i .u8 240,.i .u8 240,.i .u8 240,.i .u8 240,.i .u8 240,.i .u8 240,.i .u8 240,.i .u8 240,.i .u8 240,.i .u8 240,.i .u8 240,.i .u8 240,.i .u8 240,.i .u8 240,.i .u8 240,.i .u8 240,.i .u8 240,.i .u8 240,.i .u8 240,.i .u8 240,.i .u8 240,.i .u8 240,.i .u8 240,.i .u8 240,.i .u8 240,.i .u8 240,.i .u8 240,.i .u8 240,.i .u8 240,.i .u8 240,.i .u8 240,.i .u8 240,.i .u8 240,.i .u8 240,.i .u8 240,.i .u8 240,.i .u8 240,.i .u8 240,.i .u8 240,.i .u8 240,.i .u8 240,.i .u8 240,.i .u8 240,.i .u8 240,.i .u8 240,.i .u8 240,.i .u8 240,.i .u8 240,.i .u8 240,.i .u8 240,.i .u8 240,.i .u8 240,.i .u8 240,.i .u8 240,.i .u8 240,.i .u8 240,.i .u8 240,.i .u8 240,.i .u8 240,.i .u8 240,.i .u8 240,.i .u8 240,.i .u8 240,.i .u8 240,.i .u8 240,.i .u8 240,.i .u8 240,.i .u8 240,.i .u8 240,.i .u8 240,.i .u8 240,.i .u8 240,.i .u8 240,.i .u8 240,.i .u8 240,.i .u8 240,.i .u8 240,.i .u8 240,.i .u8 240,.i .u8 240,.i .u8 240,.i .u8 240,.i .u8 240,.i .u8 240,.i .u8 240,.i .u8 240,.i .u8 240,.i .u8 240,.i .u8 240,.i .u8 240,.i .u8 240,.i .u8 240,.i .u8 240,.i .u8 240,.i .u8 240,.i .u8 240,.i .u8 240,.i .u8 240,.i .u8 240,.i .u8 240,.i .u8 240,.i .u8 240,.i .u8 240,.i .u8 240,.i .u8 240,.i .u8 240,.i .u8 240,.i .u8 240,.i .u8 240,.i .u8 240,.i .u8 240,.i .u8 240,.i .u8 240,.i .u8 240,.i .u8 240,.i .u8 240,.i .u8 240,.i .u8 241,.i .u8 241,.i .u8 241,.i .u8 241,.i .u8 241,.i .u8 241,.i .u8 241,.i .u8 241,.i .u8 241,.i .u8 241,.i .u8 241,.i .u8 241,.i .u8 241,.i .u8 241,.i .u8 241,.i .u8 241,.i .u8 241,.i .u8 241,.i .u8 241,.i .u8 241,.i .u8 241,.i .u8 241,.i .u8 241,.i .u8 241,.i .u8 241,.i .u8 241,.i .u8 241,.i .u8 241,.i .u8 241,.i .u8 241,.i .u8 241,.i .u8 241,.i .u8 241,.i .u8 241,.i .u8 241,.i .u8 241,.i .u8 241,.i .u8 241,.i .u8 241,.i .u8 241,.i .u8 241,.i .u8 241,.i .u8 241,.i .u8 241,.i .u8 241,.i .u8 241,.i .u8 241,.i .u8 241,.i .u8 241,.i .u8 241,.i .u8 241,.i .u8 241,.i .u8 241,.i .u8 241,.i .u8 241,.i .u8 241,.i .u8 241,.i .u8 241,.i .u8 241,.i .u8 241,.i .u8 241,.i .u8 241,.i .u8 241,.i .u8 241,.i .u8 241,.i .u8 241,.i .u8 2,.i .u8 2,.i .u8 2,.i .u8 2,.i .u8 2,.i .u8 2,.i .u8 2,.i .u8 2,.i .u8 2,.i .u8 2,.i .u8 2,.i .u8 2,.i .u8 2,.i .u8 2,.i .u8 2,.i .u8 2,.i .u8 2,.i .u8 2,.i .u8 2,.i .u8 2,.i .u8 2,.i .u8 2,.i .u8 2,.i .u8 2,.i .u8 2,.i .u8 2,.i .u8 2,.i .u8 2,.i .u8 2,.i .u8 2,.i .u8 19,.i .u8 3,.i .u8 3,.i .u8 3,.i .u8 3,.i .u8 3,.i .u8 3,.i .u8 3,.i .u8 3,.i .u8 3,.i .u8 3,.i .u8 3,.i .u8 3,.i .u8 35,.i .u8 3,.i .u8 3,.i .u8 52,.i .u8 4,.i .u8 4,.i .u8 4,.i .u8 68,.i .u8 241,.i .u8 241,.i .u8 241,.i .u8 241,.i .u8 241,.i .u8 241,.i .u8 241,.i .u8 241,.i .u8 241,.i .u8 241,.i .u8 241]),
 (2,[.i .u8 128,.i .u8 191,.i .u8 160,.i .u8 191,.i .u8 128,.i .u8 159,.i .u8 144,.i .u8 191,.i .u8 128,.i .u8 143,.i .u8 0,.i .u8 0,.i .u8 0,.i .u8 0,.i .u8 0,.i .u8 0,.i .u8 0,.i .u8 0,.i .u8 0,.i .u8 0,.i .u8 0,.i .u8 0,.i .u8 0,.i .u8 0,.i .u8 0,.i .u8 0,.i .u8 0,.i .u8 0,.i .u8 0,.i .u8 0,.i .u8 0,.i .u8 0]),
 (4,[.i .u8 0,.i .u8 1,.i .u8 28,.i .u8 2,.i .u8 29,.i .u8 14,.i .u8 24,.i .u8 3,.i .u8 30,.i .u8 22,.i .u8 20,.i .u8 15,.i .u8 25,.i .u8 17,.i .u8 4,.i .u8 8,.i .u8 31,.i .u8 27,.i .u8 13,.i .u8 23,.i .u8 21,.i .u8 19,.i .u8 16,.i .u8 7,.i .u8 26,.i .u8 12,.i .u8 18,.i .u8 6,.i .u8 11,.i .u8 5,.i .u8 10,.i .u8 9])]
def Zex:List (Nat×List Cl)→Nat→Option (List Cl)
 |[],_=>none
 |x::l,g=>if x.1=g then some x.2 else Zex l g
structure Gl (w:World):Prop where
 ls:∀x∈glL,x.1<w.heap.size∧∃m:List Value,(∀j u,m[j]? =some u→w.cell? ⟨x.1,j,none⟩=some u)∧∀ρ,LR ρ x.2 m
 tb:Lib.Utf8Tabs 1 2 w
 ml:3<w.heap.size∧∃m,w.cell? ⟨3,0,none⟩=some (.int .i64 m)
def eqL:List Nat:=[33,123,53,170,60,167,234,262]
def E0:Env:={ty:=fun t=>tyT.get t 20,fn:=fun f=>fnT.get f 20,gl:=Zex glL,eqt:=fun t=>eqL.contains t}
theorem Zlc:∀{l:List (Nat×List Cl)} {g:Nat} {c:List Cl},Zex l g=some c→(g,c)∈l
 |[],g,c,h=>by simp [Zex] at h
 |x::l,g,c,h=>by
  simp only [Zex] at h;split at h
  · rename_i e
    injection h with h
    subst e h;exact List.mem_cons_self ..
  · exact List.mem_cons_of_mem _ (Zlc h)
def ZhH (P:Program)(t:Nat):Bool:=match P.underlying t with
 |some (.struct _)=>true
 |_=>false
theorem eqL_ok:(eqL.all fun t=>ZhH Tryz.prog t&&(!Tryz.prog.eqGuardType Tryz.prog.depth t&&(match tyT.get t 20 with|some ti=>ZdW Tryz.prog 5 t ti.zero|none=>true)))=true:=by decide+kernel
theorem ZrX {P:Program} {t:Nat} (h:ZhH P t=true):∃fs,P.underlying t=some (.struct fs):=by
 unfold ZhH at h;split at h
 · exact⟨_, ‹_›⟩
 · cases h
theorem E0_ok {w0:World} (hg:Gl w0):EOk Tryz.prog E0 w0.heap.size w0 where
 ty:=fun t ti h=>Znv h
 eq:=fun t ti h1 h2=>by
  have h3:=List.all_eq_true.1 eqL_ok t (by simpa [E0] using h1);have h4:tyT.get t 20=some ti:=h2;rw [h4] at h3;simp only [Bool.and_eq_true,Bool.not_eq_true'] at h3;obtain⟨fs,hfs⟩:=ZrX h3.1;refine⟨Zry h3.2.2 ⟨fs,hfs⟩ h3.2.1,fun n e hk=> ?_⟩;obtain⟨d,hd1,hd2⟩:=(Znv h4).und;rw [hfs] at hd1;injection hd1 with hd1
  subst hd1;rw [hk] at hd2;exact hd2.elim
 gl:=fun g l h=>hg.ls _ (Zlc h)
 fn:=fun f F h=>by
  have h1:=Tr.ofL_mem (show(Tr.ofL fnL).get f 20=some F from h);exact⟨fnL_ok _ h1,by simpa using List.all_eq_true.1 fnL_nm _ h1⟩
 mixed:=Zsr
theorem Gl.below {w0 w:World} (h:Gl w0)(hb:Below w0.heap.size w0 w):Gl w where
 ls:=fun x hx=>by
  obtain⟨h1,m,h2,h3⟩:=h.ls x hx;exact⟨Nat.lt_of_lt_of_le h1 hb.size,m,fun j u hu=>(hb.cell (p:=⟨x.1,j,none⟩) h1).trans (h2 j u hu),h3⟩
 tb:=Utf8Tabs_below h.tb hb
 ml:=by
  obtain⟨h1,m,h2⟩:=h.ml;exact⟨Nat.lt_of_lt_of_le h1 hb.size,m,(hb.cell (p:=⟨_,0,none⟩) h1).trans h2⟩
def clo:Cl→Bool
 | .p _ _=>false
 | .sl _ _ _ _=>false
 | .fn _ fs cs=>fs.isEmpty&&cs.isEmpty
 | .m _=>false
 |_=>true
def clo0:A0→Bool
 | .c x=>clo x
 | .a l=>l.all clo
def cloA:AV→Bool
 | .c x=>clo x
 | .a l=>l.all clo
 | .t l=>l.all clo0
theorem PW.all {α:Type} {R S:α→Value→Prop} {p:α→Bool} (h:∀x v,p x=true→R x v→S x v):∀{l:List α} {m:List Value},l.all p=true→PW R l m→PW S l m
 |[],[],_,_=>trivial
 |_::_,_::_,hp,hr=>by
  simp only [List.all_cons,Bool.and_eq_true] at hp;exact⟨h _ _ hp.1 hr.1,PW.all h hp.2 hr.2⟩
 |[],_::_,_,h=>h.elim
 |_::_,[],_,h=>h.elim
theorem VR.clo {ρ σ:Rho} (x:Cl)(v:Value)(hc:clo x=true)(h:VR ρ x v):VR σ x v:=by
 cases x<;>first|exact h|(cases hc;done)|skip
 rename_i f fs cs
 simp only [Ev.clo,Bool.and_eq_true,List.isEmpty_iff] at hc;obtain⟨rfl,rfl⟩:=hc;obtain⟨m,n,rfl,h1,h2⟩:=h
 match m,n,h1,h2 with
 |[],[],_,_=>exact⟨[],[],rfl,trivial,trivial⟩
theorem A0R.clo {ρ σ:Rho} (x:A0)(v:Value)(hc:clo0 x=true)(h:A0R ρ x v):A0R σ x v:=by
 cases x with
 |c x=>exact VR.clo x v hc h
 |a l=>
  obtain⟨m,rfl,hm⟩:=h;exact⟨m,rfl,PW.all (fun x v=>VR.clo x v) hc hm⟩
theorem AR.clo {ρ σ:Rho} (x:AV)(v:Value)(hc:cloA x=true)(h:AR ρ x v):AR σ x v:=by
 cases x with
 |c x=>exact VR.clo x v hc h
 |a l=>
  obtain⟨m,rfl,hm⟩:=h;exact⟨m,rfl,PW.all (fun x v=>VR.clo x v) hc hm⟩
 |t l=>
  obtain⟨m,rfl,hm⟩:=h;exact⟨m,rfl,PW.all (fun x v=>A0R.clo x v) hc hm⟩
structure Told where
 f:Nat
 args:List AV
 v:AV
def ToldOk (t:Told):Prop:=∀w,Gl w→∀(ρ:Rho) (A:List Value),PW (AR ρ) t.args A→Calls Tryz.prog t.f A.toArray w (fun e w'=>∃V,e= .returned V∧(∀σ,AR σ t.v V)∧Below w.heap.size w w')
def Zd6:List Told→Nat→List AV→Option AV
 |[],_,_=>none
 |t::l,f,args=>if t.f=f then(if t.args=args then some t.v else Zd6 l f args) else Zd6 l f args
theorem Zh1:∀{L:List Told} {f:Nat} {args:List AV} {v:AV},Zd6 L f args=some v→∃t∈L,t.f=f∧t.args=args∧t.v=v
 |[],_,_,_,h=>by simp [Zd6] at h
 |t::L,f,args,v,h=>by
  simp only [Zd6] at h;split at h
  · rename_i e1
    split at h
    · rename_i e2
      injection h with h
      exact⟨t,List.mem_cons_self ..,e1,e2,h⟩
    · obtain⟨u,h1,h2⟩:=Zh1 h;exact⟨u,List.mem_cons_of_mem _ h1,h2⟩
  · obtain⟨u,h1,h2⟩:=Zh1 h;exact⟨u,List.mem_cons_of_mem _ h1,h2⟩
end
end Ev
namespace Ev
noncomputable section
def ZeQ:List Cl→Option (List (List UInt8))
 |[]=>some []
 | .s x::l=>opt (ZeQ l) fun r=>some (x::r)
 |_=>none
def oJoin (h:Hp):List AV→Option AV
 |[.c .zs,.c (.s _)]=>some (.c (.s []))
 |[.c (.sl i o len _),.c (.s sep)]=>if len=0 then some (.c (.s [])) else match look h i with
  |some (.cl l _ _ _)=>opt (ZeQ ((l.drop o).take len)) fun xs=>if xs.length=len∧len≤1000000∧(Lib.join xs sep).length≤1000000 then some (.c (.s (Lib.join xs sep))) else none
  |_=>none
 |_=>none
def ZlW:List AV→Option AV
 |[.c (.s l),.c (.i .u8 n)]=>some (.c (.i .i64 (Lib.indexByte l n.toNat.toUInt8)))
 |_=>none
def ZlV:List AV→Option AV
 |[.c (.s l),.c (.s m)]=>if l.length<1000000 then some (.c (.i .i64 (Lib.index l m))) else none
 |_=>none
def ZlU:List AV→Option AV
 |[.c (.s l),.c (.s m)]=>if l.length<1000000∧1≤m.length then some (.c (.i .i64 (Lib.countB (Bs l) (Bs m)))) else none
 |_=>none
def ZlX:List AV→Option AV
 |[.c (.s l),.c (.i .i64 (.ofNat n))]=>if l.length*n≤100000∧n≤100000 then some (.c (.s (Lib.repeatL l n))) else none
 |_=>none
def ZlY:List AV→Option AV
 |[.c (.s l)]=>if l.length≤1000000 then some (.c (.b (Lib.validD l))) else none
 |_=>none
def orcS (f:Nat)(args:List AV)(h:Hp):Option AV:=
 if f=166 then oJoin h args
 else if f=290 then ZlW args
 else if f=360 then ZlV args
 else if f=406 then ZlU args
 else if f=276 then ZlX args
 else if f=175 then ZlY args
 else none
def orcA (L:List Told)(f:Nat)(args:List AV)(h:Hp):Option AV:=match Zd6 L f args with
 |some v=>some v
 |none=>orcS f args h
theorem PW.two {ρ:Rho} {a b:AV} {A:List Value} (h:PW (AR ρ) [a,b] A):∃x y,A=[x,y]∧AR ρ a x∧AR ρ b y:=by
 match A,h with
 |[x,y],h=>exact⟨x,y,rfl,h.1,h.2.1⟩
theorem PW.one {ρ:Rho} {a:AV} {A:List Value} (h:PW (AR ρ) [a] A):∃x,A=[x]∧AR ρ a x:=by
 match A,h with
 |[x],h=>exact⟨x,rfl,h.1⟩
theorem Znk {ρ:Rho}:∀{l:List Cl} {xs:List (List UInt8)} {m:List Value},ZeQ l=some xs→LR ρ l m→m=(xs.map Bs).map Value.string∧xs.length=l.length
 |[],xs,m,h,hl=>by
  simp only [ZeQ,Option.some.injEq] at h;subst h
  match m,hl with
  |[],_=>exact⟨rfl,rfl⟩
 |c::l,xs,m,h,hl=>by
  unfold ZeQ at h;split at h
  · rename_i heq;cases heq
  · rename_i x l' heq
    injection heq with e1 e2
    subst e1 e2;obtain⟨r,h1,h⟩:=Zc h;injection h with h;subst h
    match m,hl with
    |y::m,hl=>
     obtain⟨g1,g2⟩:=Znk h1 hl.2;have e:y= .string (Bs x):=hl.1;subst e;exact⟨by rw [g1];rfl,by simp [g2]⟩
  · cases h
theorem ml_ok {w:World} (hg:Gl w):∃m,w.cell? ⟨3,0,none⟩=some (.int .i64 m):=hg.ml.2
theorem ZsS {w0:World} (hg:Gl w0):Zek Tryz.prog w0.heap.size w0 orcS:=by
 intro f args h v ho ρ nx w A hI hA;have hgw:=hg.below hI.low;unfold orcS at ho;split at ho
 · rename_i hf
   subst hf;unfold oJoin at ho;split at ho
   · obtain⟨x,y,rfl,hx,hy⟩:=PW.two hA;simp only [Option.some.injEq] at ho;subst ho;have e1:x= .slice none 0 0:=hx
     rename_i sep
     have e2:y= .string (Bs sep):=hy;subst e1 e2;exact(Tryz.strings_Join_none none 0 (Bs sep) w).mono fun e w' ⟨he,hw⟩=>⟨_,he,rfl,hw▸Below.refl _ _⟩
   · rename_i i o len cut sep
     obtain⟨x,y,rfl,hx,hy⟩:=PW.two hA;obtain⟨b,c,o',hb,hc,ho',rfl⟩:AR ρ (.c (.sl i o len cut)) x:=hx;have e2:y= .string (Bs sep):=hy;subst e2;split at ho
     · rename_i hz
       subst hz;simp only [Option.some.injEq] at ho;subst ho;exact(Tryz.strings_Join_none _ _ (Bs sep) w).mono fun e w' ⟨he,hw⟩=>⟨_,he,rfl,hw▸Below.refl _ _⟩
     · rename_i hz
       split at ho
       case h_2=>cases ho
       rename_i l ty sz row hlk
       obtain⟨xs,h1,ho⟩:=Zc ho;split at ho
       case isFalse=>cases ho
       rename_i hcnd
       simp only [Option.some.injEq] at ho;subst ho;have heo:=ho' (.inl hz);subst heo;obtain⟨b2,c2,q1,m,rest,fz,q2,q3,_⟩:=hI.ob _ (ZaS hlk);simp only at q1;rw [q1] at hb;injection hb with hb
       injection hb with hb hb'
       subst hb hb';obtain⟨g1,g2⟩:=Znk h1 ((q3.drop o').take len);have hlen:((xs.map Bs).map (fun x=>x.data.toList))=xs:=by simp [Bs,Function.comp_def]
       have hr:=Tryz.strings_Join b2 o' (c2 - cut) (xs.map Bs) (Bs sep) w (fun j u hu=>by
        rw [cell_of_row w b2 _ _ ty fz q2];have:((m.drop o').take len)[j]? =some (.string u):=by
         rw [g1,List.getElem?_map,hu];rfl
        rw [List.getElem?_take] at this;split at this
        · rw [List.getElem?_drop] at this;have hlt:=(List.getElem?_eq_some_iff.1 this).1;simp only [List.getElem?_toArray];rw [List.getElem?_append_left hlt];exact this
        · cases this) (hI.rng _ _ _ q1).2 (by simp;omega) (by simp;omega) (by rw [hlen,ZcN];omega)
       rw [hlen,ZcN,List.length_map,hcnd.1] at hr;exact hr.mono fun e w' ⟨he,hw⟩=>⟨_,he,rfl,hw⟩
   · cases ho
 split at ho
 · rename_i hf
   subst hf;unfold ZlW at ho;split at ho
   · rename_i l n
     obtain⟨x,y,rfl,hx,hy⟩:=PW.two hA;have e1:x= .string (Bs l):=hx;have e2:y= .int .u8 n:=hy;subst e1 e2;simp only [Option.some.injEq] at ho;subst ho;have hr:=Tryz.strings_IndexByte (Bs l) n w;rw [ZcN] at hr;exact hr.mono fun e w' ⟨he,hw⟩=>⟨_,he,rfl,hw▸Below.refl _ _⟩
   · cases ho
 split at ho
 · rename_i hf
   subst hf;unfold ZlV at ho;split at ho
   · rename_i l m
     split at ho
     case isFalse=>cases ho
     rename_i hlt
     obtain⟨x,y,rfl,hx,hy⟩:=PW.two hA;have e1:x= .string (Bs l):=hx;have e2:y= .string (Bs m):=hy;subst e1 e2;simp only [Option.some.injEq] at ho;subst ho;obtain⟨k,hk⟩:=ml_ok hgw;have hr:=Tryz.strings_Index (Bs l) (Bs m) k w (by rw [Zbs];omega) hk;rw [ZcN,ZcN] at hr;exact hr.mono fun e w' ⟨he,hw⟩=>⟨_,he,rfl,hw▸Below.refl _ _⟩
   · cases ho
 split at ho
 · rename_i hf
   subst hf;unfold ZlU at ho;split at ho
   · rename_i l m
     split at ho
     case isFalse=>cases ho
     rename_i hlt
     obtain⟨x,y,rfl,hx,hy⟩:=PW.two hA;have e1:x= .string (Bs l):=hx;have e2:y= .string (Bs m):=hy;subst e1 e2;simp only [Option.some.injEq] at ho;subst ho;obtain⟨k,hk⟩:=ml_ok hgw;have hr:=Tryz.strings_Count_any (Bs l) (Bs m) k w (by rw [Zbs];omega) hk (by rw [Zbs];omega);exact hr.mono fun e w' ⟨he,hw⟩=>⟨_,he,rfl,hw▸Below.refl _ _⟩
   · cases ho
 split at ho
 · rename_i hf
   subst hf;unfold ZlX at ho;split at ho
   · rename_i l n
     split at ho
     case isFalse=>cases ho
     rename_i hlt
     obtain⟨x,y,rfl,hx,hy⟩:=PW.two hA;have e1:x= .string (Bs l):=hx;have e2:y= .int .i64 (Int.ofNat n):=hy;subst e1 e2;simp only [Option.some.injEq] at ho;subst ho;have hr:=Tryz.strings_Repeat (Bs l) n w (by omega) (by rw [Zbs];omega);rw [ZcN] at hr;exact hr.mono fun e w' ⟨he,hw⟩=>⟨_,he,rfl,hw⟩
   · cases ho
 split at ho
 · rename_i hf
   subst hf;unfold ZlY at ho;split at ho
   · rename_i l
     split at ho
     case isFalse=>cases ho
     rename_i hlt
     obtain⟨x,rfl,hx⟩:=PW.one hA;have e1:x= .string (Bs l):=hx;subst e1;simp only [Option.some.injEq] at ho;subst ho;have hr:=Any.utf8_ValidString Tryz.laysValid (Bs l) w (by rw [Zbs];omega) hgw.tb;rw [ZcN] at hr;exact hr.mono fun e w' ⟨he,hw⟩=>⟨_,he,rfl,hw⟩
   · cases ho
 · cases ho
theorem ZO {L:List Told} (hL:∀t∈L,ToldOk t)(esc:Nat→Bool)(n f:Nat)(args:List AV)(v:AV)(hc:args.all cloA=true)(hv:cloA v=true)(hr:run E0 (orcA L) esc n f args=some v):ToldOk ⟨f,args,v⟩:=by
 intro w hg ρ A hA;have hA':∀σ,PW (AR σ) args A:=fun σ=>PW.all (fun x u=>AR.clo x u) hc hA;have hO:Zek Tryz.prog w.heap.size w (orcA L):=by
  intro f args h v ho ρ nx w1 A hI hA;unfold orcA at ho;split at ho
  · rename_i u hu
    injection ho with ho
    subst ho;obtain⟨t,h1,rfl,rfl,rfl⟩:=Zh1 hu;exact(hL t h1 w1 (hg.below hI.low) ρ A hA).mono fun e w' ⟨V,he,hV,hb⟩=>⟨V,he,hV ρ,hb⟩
  · exact ZsS hg f args h v ho ρ nx w1 A hI hA
 exact(run_ok rfl (E0_ok hg) hO esc hA' hr).mono fun e w' ⟨σ,V,he,hV,hb⟩=>⟨V,he,fun τ=>AR.clo _ _ hv hV,hb⟩
def tAw (f:Nat):Told:=⟨f,[],.c (.b true)⟩
def ZL (f:Nat):Bool:=f==311||(f==241||(f==312))
end
end Ev
end Go.Proofs.YtlfinljfghhpdaaGreatDoor
