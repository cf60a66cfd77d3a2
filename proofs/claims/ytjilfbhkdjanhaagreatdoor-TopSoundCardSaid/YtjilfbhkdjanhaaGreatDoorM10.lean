/- Lemmas for a statement on the tops; conditions: as each says. -/
import Derived.Laws.StructEq
import Derived.Test.YtjilfbhkdjanhaaGreatDoorM1
import Derived.Test.YtjilfbhkdjanhaaGreatDoorM8
import Derived.Test.YtjilfbhkdjanhaaGreatDoorM9
set_option linter.all false
set_option maxRecDepth 100000
set_option maxHeartbeats 200000
open Go.Proofs.Tryz
namespace Go.Proofs.YtjilfbhkdjanhaaGreatDoor
open Go
namespace Ev
def Tr.ofL{α:Type}:List (Nat×α)->Tr α
 |[]=>.lf
 |x::l=>Tr.put x.2 20 x.1 (Tr.ofL l)
def Tr.get_put{α:Type}(x:α){y:α}:∀(f n:Nat) (tr:Tr α) (m g:Nat),(Tr.put x f n tr).get m g=some y->(m=n/\y=x)\/tr.get m g=some y
 |0,n,tr,m,g,h=>by simp[Tr.put,Tr.get_lf] at h
 |f+1,n,.lf,m,g,h=>by
  left
  simp only[Tr.put] at h;by_cases hn:n=0
  ·rw[if_pos hn] at h;simp only[Tr.get_nd] at h;by_cases j:m=0
   ·rw[if_pos j] at h;injection h with h
    exact⟨by omega,h.symm⟩
   ·rw[if_neg j] at h;cases g with
    |zero=>cases h
    |succ g=>simp[Tr.get_lf] at h
  ·rw[if_neg hn] at h;by_cases C:n % 2=0
   ·rw[if_pos C] at h;simp only[Tr.get_nd] at h;by_cases j:m=0
    ·rw[if_pos j] at h;cases h
    ·rw[if_neg j] at h;cases g with
     |zero=>cases h
     |succ g=>
      simp only at h;by_cases q:m % 2=0
      ·rw[if_pos q] at h;rcases Tr.get_put x f (n / 2) .lf (m / 2) g h with⟨D,u⟩|h
       ·exact⟨by omega,u⟩
       ·simp[Tr.get_lf] at h
      ·rw[if_neg q] at h;simp[Tr.get_lf] at h
   ·rw[if_neg C] at h;simp only[Tr.get_nd] at h;by_cases j:m=0
    ·rw[if_pos j] at h;cases h
    ·rw[if_neg j] at h;cases g with
     |zero=>cases h
     |succ g=>
      simp only at h;by_cases q:m % 2=0
      ·rw[if_pos q] at h;simp[Tr.get_lf] at h
      ·rw[if_neg q] at h;rcases Tr.get_put x f (n / 2) .lf (m / 2) g h with⟨D,u⟩|h
       ·exact⟨by omega,u⟩
       ·simp[Tr.get_lf] at h
 |f+1,n,.nd l v r,m,g,h=>by
  simp only[Tr.put] at h;by_cases hn:n=0
  ·rw[if_pos hn] at h;simp only[Tr.get_nd] at h⊢;by_cases j:m=0
   ·rw[if_pos j] at h;injection h with h
    exact .inl ⟨by omega,h.symm⟩
   ·rw[if_neg j] at h⊢;exact .inr h
  ·rw[if_neg hn] at h;by_cases C:n % 2=0
   ·rw[if_pos C] at h;simp only[Tr.get_nd] at h⊢;by_cases j:m=0
    ·rw[if_pos j] at h⊢;exact .inr h
    ·rw[if_neg j] at h⊢;cases g with
     |zero=>cases h
     |succ g=>
      simp only at h⊢;by_cases q:m % 2=0
      ·rw[if_pos q] at h⊢;rcases Tr.get_put x f (n / 2) l (m / 2) g h with⟨D,u⟩|h
       ·exact .inl ⟨by omega,u⟩
       ·exact .inr h
      ·rw[if_neg q] at h⊢;exact .inr h
   ·rw[if_neg C] at h;simp only[Tr.get_nd] at h⊢;by_cases j:m=0
    ·rw[if_pos j] at h⊢;exact .inr h
    ·rw[if_neg j] at h⊢;cases g with
     |zero=>cases h
     |succ g=>
      simp only at h⊢;by_cases q:m % 2=0
      ·rw[if_pos q] at h⊢;exact .inr h
      ·rw[if_neg q] at h⊢;rcases Tr.get_put x f (n / 2) r (m / 2) g h with⟨D,u⟩|h
       ·exact .inl ⟨by omega,u⟩
       ·exact .inr h
def Tr.ofL_mem{α:Type}{y:α}:∀{l:List (Nat×α)} {m g:Nat},(Tr.ofL l).get m g=some y->(m,y)∈l
 |[],m,g,h=>by simp[Tr.ofL,Tr.get_lf] at h
 |x::l,m,g,h=>by
  simp only[Tr.ofL] at h;rcases Tr.get_put _ _ _ _ _ _ h with⟨q,j⟩|h
  ·subst q j;exact List.mem_cons_self ..
  ·exact List.mem_cons_of_mem _ (Tr.ofL_mem h)
end Ev
open Go Go.RowKit
namespace Ev
def zcB:List Cl->List Value->Bool
 |[],[]=>true
 | .b x::l,.bool y::m=>x==y&&zcB l m
 | .i k x::l,.int j y::m=>decide (k=j)&&decide (x=y)&&zcB l m
 | .s x::l,.string y::m=>decide (x=y.data.toList)&&zcB l m
 | .zp::l,.pointer none::m=>zcB l m
 | .zs::l,.slice none 0 0::m=>zcB l m
 | .zf::l,.nilFunc::m=>zcB l m
 | .zi::l,.nilIface::m=>zcB l m
 | .zm::l,.map none::m=>zcB l m
 |_,_=>false
def zcB_ok(ρ:Rho):∀(l:List Cl) (m:List Value),zcB l m=true->LR ρ l m:=by
 intro l m
 fun_induction zcB l m<;>intro h<;>(try simp only[Bool.and_eq_true,decide_eq_true_eq,beq_iff_eq] at h)<;>first
  |trivial
  |(rename_i j;obtain⟨rfl,q⟩:=h;exact⟨rfl,j q⟩)
  |(rename_i j;obtain⟨⟨rfl,rfl⟩,q⟩:=h;exact⟨rfl,j q⟩)
  |(rename_i j;obtain⟨rfl,q⟩:=h;exact⟨congrArg Value.string (by simp[Bs]),j q⟩)
  |(rename_i j;exact⟨rfl,j h⟩)
  |cases h
def tkB(P:Program):TK->TypeDesc->Bool
 | .int k,.int q=>decide (k=q)
 | .bl,.bool=>true
 | .str,.string=>true
 | .ptr e,.pointer j=>e==j
 | .sl e,.slice j=>e==j
 | .ar n e,.array u j=>n==u&&e==j
 | .mp k e,.map q j=>k==q&&e==j
 | .fn,.func _ _ _=>true
 | .st fs,.struct fields=>decide (fs=fields.toList.map (λf=>(f.type,f.offset,P.cellsOf f.type)))&&fields.toList.all (λf=>(P.info? f.type).isSome)
 |_,_=>false
def tkB_ok{P:Program}{k:TK}{d:TypeDesc}(h:tkB P k d=true):TKok P k d:=by
 unfold tkB at h;split at h<;>first
  |(cases h;done)
  |trivial
  |(simp only[decide_eq_true_eq] at h;exact h)
  |(simp only[beq_iff_eq] at h;exact h)
  |(simp only[Bool.and_eq_true,beq_iff_eq] at h;exact h)
  |(simp only[Bool.and_eq_true,decide_eq_true_eq] at h
    exact⟨h.1,λf j=>List.all_eq_true.1 h.2 f (by simpa using j)⟩)
def zB(k:TK):Value->Bool
 | .agg _=>k.agg
 |_=> !k.agg
def tyB(P:Program)(t:Nat)(j:TI):Bool:=match P.info? t,P.underlying t with
 |some info,some d=>info.size==j.size&&(info.bytes==j.bytes&&(tkB P j.k d&&(j.zero.length==j.size&&(match info.zero with
  |some z=>zcB j.zero z.cells.toList&&zB j.k z
  |none=>false))))
 |_,_=>false
def tyB_ok{P:Program}{t:Nat}{y:TI}(h:tyB P t y=true):TyOk P t y:=by
 unfold tyB at h;split at h
 ·rename_i info d O N
  simp only[Bool.and_eq_true,beq_iff_eq] at h;obtain⟨L,J,I,D,j⟩:=h;split at j
  ·rename_i z C
   simp only[Bool.and_eq_true] at j;refine⟨⟨info,d,z,O,N,L,J,tkB_ok I,C,λρ=>zcB_ok ρ _ _ j.1,λu=>?_,λu m=>?_⟩,D⟩
   ·have q:=j.2;cases z<;>simp only[zB,u,Bool.not_true] at q<;>first|(cases q;done)|exact⟨_,rfl⟩
   ·rintro rfl;have q:=j.2;simp[zB,u] at q
  ·cases j
 ·cases h
noncomputable def tyT:Tr TI:=Tr.ofL tyL
noncomputable def fnT:Tr Func:=Tr.ofL fnL
def tyL_ok:(tyL.all λx=>tyB prog x.1 x.2)=true:=by decide+kernel
def fnL_nm:(fnL.all λx=> !(x.2.name== "runtime.NumGoroutine"))=true:=by decide+kernel
def Zpo{t:Nat}{j:TI}(h:tyT.get t 20=some j):TyOk prog t j:=tyB_ok (List.all_eq_true.1 tyL_ok _ (Tr.ofL_mem h))
def ZuX:prog.follows .mixedOrders=true:=by decide+kernel
end Ev
namespace Ev
def Zf4(P:Program)(rc:Nat->List Cl->Bool):List Field->Nat->List Cl->Bool
 |[],_,z=>z.isEmpty
 |f::fs,j,z=>f.name != "_" &&(f.offset==j&&((P.info? f.type).isSome&&(decide (P.cellsOf f.type<=z.length)&&(rc f.type (z.take (P.cellsOf f.type))&&Zf4 P rc fs (j+P.cellsOf f.type) (z.drop (P.cellsOf f.type))))))
def Zfb(P:Program):Nat->Nat->List Cl->Bool
 |0,_,_=>false
 |d+1,t,z=>match P.underlying t with
  |some (.int _)=>(match z with|[.i _ _]=>true|_=>false)
  |some .bool=>(match z with|[.b _]=>true|_=>false)
  |some .string=>(match z with|[.s _]=>true|_=>false)
  |some (.struct fs)=> !P.stoodInHeld t&&Zf4 P (Zfb P d) fs.toList 0 z
  |_=>false
def ZdB:∀{z l:List Cl},shp z l=true->z.length=l.length
 |[],[],_=>rfl
 | .b _::z,.b _::l,h=>by simp[ZdB (z:=z) (l:=l) (by simpa[shp] using h)]
 | .i _ _::z,.i _ _::l,h=>by simp[ZdB (z:=z) (l:=l) (by simp[shp] at h;exact h.2)]
 | .s _::z,.s _::l,h=>by simp[ZdB (z:=z) (l:=l) (by simpa[shp] using h)]
 |z,l,h=>by
  unfold shp at h;split at h<;>first|rfl|(cases h;done)|(simp only[Bool.and_eq_true] at h;simp[ZdB h.2])|simp[ZdB h]
def Zgs:∀(n:Nat) {z l:List Cl},shp z l=true->shp (z.take n) (l.take n)=true/\shp (z.drop n) (l.drop n)=true
 |0,z,l,h=>by simpa[shp] using h
 |n+1,z,l,h=>by
  unfold shp at h;split at h
  ·simp[shp]
  ·simpa[shp] using Zgs n h
  ·simp only[Bool.and_eq_true] at h;have:=Zgs n h.2;simp only[List.take_succ_cons,List.drop_succ_cons,shp,h.1,this.1,this.2,Bool.and_self,and_self]
  ·simpa[shp] using Zgs n h
  ·cases h
def nrow:TypeDesc->Bool
 | .struct _=>false
 | .array _ _=>false
 |_=>true
def shp_i{k:IntKind}{n:Int}:∀{l:List Cl},shp [.i k n] l=true->∃j,l=[.i k j]
 |[],h=>by simp[shp] at h
 |x::l,h=>by
  cases x<;>simp[shp] at h
  obtain⟨rfl,h⟩:=h;cases l with
  |nil=>exact⟨_,rfl⟩
  |cons y l=>simp[shp] at h
def shp_b{n:Bool}:∀{l:List Cl},shp [.b n] l=true->∃j,l=[.b j]
 |[],h=>by simp[shp] at h
 |x::l,h=>by
  cases x<;>simp[shp] at h
  cases l with
  |nil=>exact⟨_,rfl⟩
  |cons y l=>simp[shp] at h
def shp_s{n:List UInt8}:∀{l:List Cl},shp [.s n] l=true->∃j,l=[.s j]
 |[],h=>by simp[shp] at h
 |x::l,h=>by
  cases x<;>simp[shp] at h
  cases l with
  |nil=>exact⟨_,rfl⟩
  |cons y l=>simp[shp] at h
def LR.single{ρ:Rho}{c:Cl}:∀{L:List Value},LR ρ [c] L->∃x,L=[x]/\VR ρ c x
 |[],h=>h.elim
 |[x],h=>⟨x,rfl,h.1⟩
 |_::_::_,h=>h.2.elim
def EqV(P:Program)(D t:Nat)(z:List Cl):Prop:=∀(l m:List Cl) (L M:List Value) (ρ:Rho),shp z l=true->shp z m=true->LR ρ l L->LR ρ m M->
 ((∃fs,P.underlying t=some (.struct fs))/\∀w,(Op.equalIn D t (.agg L.toArray) (.agg M.toArray)).run P w=.ok (decide (l=m)) w)\/
 (∃j x y,P.underlying t=some j/\nrow j=true/\L=[x]/\M=[y]/\∀w,(Op.equalIn D t x y).run P w=.ok (decide (l=m)) w)
def Zof{P:Program}{t j:Nat}{fs:Array Field}(C:P.underlying t=some (.struct fs))(y:(P.info? t).isSome=true)(L:List Value)(w:World):
 (Go.part t L.toArray j).run P w=.ok (.agg ((L.drop j).take (P.cellsOf t)).toArray) w:=by
 cases u:P.info? t with
 |none=>rw[u] at y;cases y
 |some i=>
  have q:(isAgg t).run P w=.ok true w:=by
   simp only[isAgg,Sem.run_bind,run_und C,Result.andThen_ok];rfl
  simp only[Go.part,Sem.run_bind,q,Result.andThen_ok,if_true,sizeOf,run_ti u,Sem.run_pure];have D:P.cellsOf t=i.size:=by simp[Program.cellsOf,u]
  congr 2
  apply Array.ext'
  simp[D,List.extract_eq_take_drop]
def Zoc{P:Program}{t j:Nat}{d:TypeDesc}(y:P.underlying t=some d)(hd:nrow d=true){L:List Value}{x:Value}(u:L[j]?=some x)(w:World):
 (Go.part t L.toArray j).run P w=.ok x w:=by
 have q:(isAgg t).run P w=.ok false w:=by
  simp only[isAgg,Sem.run_bind,run_und y,Result.andThen_ok];cases d<;>first|rfl|cases hd
 simp[Go.part,q,u]
def ZmL{P:Program}{D:Nat}{rc:Nat->List Cl->Bool}(J:∀t z,rc t z=true->EqV P D t z):∀(fs:List Field) (j:Nat) (z l m:List Cl) (L M:List Value) (ρ:Rho),Zf4 P rc fs j z=true->shp z (l.drop j)=true->shp z (m.drop j)=true->LR ρ l L->LR ρ m M->
 ∀w,(Op.eqFields D L.toArray M.toArray fs).run P w=.ok (decide (l.drop j=m.drop j)) w
 |[],j,z,l,m,L,M,ρ,U,O,N,X,W,w=>by
  have hz:z=[]:=by simpa[Zf4] using U
  subst hz;have Y:l.drop j=[]:=List.eq_nil_of_length_eq_zero (ZdB O).symm;have C:m.drop j=[]:=List.eq_nil_of_length_eq_zero (ZdB N).symm;rw[Y,C];simp[Op.eqFields]
 |f::fs,j,z,l,m,L,M,ρ,U,O,N,X,W,w=>by
  simp only[Zf4,Bool.and_eq_true,bne_iff_ne,ne_eq,beq_iff_eq,decide_eq_true_eq] at U;obtain⟨Y,C,h3,h4,h5,h6⟩:=U;obtain⟨n,hn⟩:∃n,n=P.cellsOf f.type:=⟨_,rfl⟩
  rw[<-hn] at h4 h5 h6;have sl:=Zgs n O;have V:=Zgs n N;rw[List.drop_drop] at sl V;have ih:=ZmL J fs (j+n) (z.drop n) l m L M ρ h6 sl.2 V.2 X W;have aq:=ZdB O;have ap:=ZdB N;have lL:=(X.drop j).take n;have lM:=(W.drop j).take n;have u:decide (l.drop j=m.drop j)=(decide ((l.drop j).take n=(m.drop j).take n)&&decide (l.drop (j+n)=m.drop (j+n))):=by
   rw[<-List.drop_drop,<-List.drop_drop];generalize l.drop j=p at*;generalize m.drop j=q at*;by_cases Z:p=q
   ·subst Z;simp
   ·have:¬(p.take n=q.take n/\p.drop n=q.drop n):=λ⟨a,b⟩=>Z (by rw[<-List.take_append_drop n p,a,b,List.take_append_drop]);rw[decide_eq_false Z]
    symm
    rw[Bool.and_eq_false_iff];rw[Classical.not_and_iff_not_or_not] at this;rcases this with h|h
    ·exact .inl (decide_eq_false h)
    ·exact .inr (decide_eq_false h)
  have step:∃a b,(Go.part f.type L.toArray f.offset).run P w=.ok a w/\(Go.part f.type M.toArray f.offset).run P w=.ok b w/\(Op.equalIn D f.type a b).run P w=.ok (decide ((l.drop j).take n=(m.drop j).take n)) w:=by
   rcases J _ _ h5 _ _ _ _ ρ sl.1 V.1 lL lM with⟨⟨gs,I⟩,he⟩|⟨dd,x,y,I,hd,ex,ey,he⟩
   ·refine⟨_,_,by rw[C];exact Zof I h3 L w,by rw[C];exact Zof I h3 M w,?_⟩;rw[<-hn];exact he w
   ·have hx:L[j]?=some x:=by
     have:((L.drop j).take n)[0]?=some x:=by rw[ex];rfl
     rw[List.getElem?_take] at this;split at this
     ·simpa using this
     ·cases this
    have hy:M[j]?=some y:=by
     have:((M.drop j).take n)[0]?=some y:=by rw[ey];rfl
     rw[List.getElem?_take] at this;split at this
     ·simpa using this
     ·cases this
    exact⟨x,y,by rw[C];exact Zoc I hd hx w,by rw[C];exact Zoc I hd hy w,he w⟩
  obtain⟨a,b,q1,q2,q3⟩:=step;simp only[Op.eqFields,ne_eq,Y,not_false_eq_true,if_true,Sem.run_bind,q1,q2,q3,Result.andThen_ok,u];cases aa:decide ((l.drop j).take n=(m.drop j).take n)
  ·simp
  ·simp only[Bool.not_true,Bool.false_eq_true,if_false,ih,Bool.true_and]
def ZiZ{P:Program}:∀(d D t:Nat) (z:List Cl),d<=D->Zfb P d t z=true->EqV P D t z
 |0,_,_,_,_,h=>by cases h
 |d+1,D,t,z,Z,h=>by
  obtain⟨C,rfl⟩:∃C,D=C+1:=⟨D - 1,by omega⟩
  intro l m L M ρ U O W V;unfold Zfb at h;split at h
  ·rename_i k j
   right
   split at h
   ·rename_i X n0
    obtain⟨J,rfl⟩:=shp_i U;obtain⟨I,rfl⟩:=shp_i O;obtain⟨x,rfl,u⟩:=LR.single W;obtain⟨y,rfl,q⟩:=LR.single V;simp only[VR] at u q;subst u q;refine⟨_,_,_,j,rfl,rfl,rfl,λw=>?_⟩;rw[run_equalIn_int w C t X k J I j];congr 1
    by_cases e:J=I
    ·subst e;simp
    ·simp[e]
   ·cases h
  ·rename_i j
   right
   split at h
   ·obtain⟨J,rfl⟩:=shp_b U;obtain⟨I,rfl⟩:=shp_b O;obtain⟨x,rfl,u⟩:=LR.single W;obtain⟨y,rfl,q⟩:=LR.single V;simp only[VR] at u q;subst u q;refine⟨_,_,_,j,rfl,rfl,rfl,λw=>?_⟩;rw[run_equalIn_bool w C t J I j];congr 1
    cases J<;>cases I<;>rfl
   ·cases h
  ·rename_i j
   right
   split at h
   ·obtain⟨J,rfl⟩:=shp_s U;obtain⟨I,rfl⟩:=shp_s O;obtain⟨x,rfl,u⟩:=LR.single W;obtain⟨y,rfl,q⟩:=LR.single V;simp only[VR] at u q;subst u q;refine⟨_,_,_,j,rfl,rfl,rfl,λw=>?_⟩;rw[run_equalIn_string w C t _ _ j,ZgH,ZgH];congr 1
    by_cases e:J=I
    ·subst e;simp
    ·simp[e]
   ·cases h
  ·rename_i fs j
   left
   simp only[Bool.and_eq_true,Bool.not_eq_true'] at h;refine⟨⟨fs,j⟩,λw=>?_⟩;have N:P.fieldsOf t=fs:=by simp[Program.fieldsOf,j]
   rw[run_equalIn_struct w C t _ _ (by rw[N];exact j) h.1,N];have:=ZmL (P:=P) (D:=C) (rc:=Zfb P d) (λt z Y=>ZiZ d C t z (by omega) Y) fs.toList 0 z l m L M ρ h.2 (by simpa using U) (by simpa using O) W V w;simpa using this
  ·cases h
def Zt1{P:Program}{t:Nat}{j:TI}(h:Zfb P 5 t j.zero=true)(hs:∃fs,P.underlying t=some (.struct fs))(D:P.eqGuardType P.depth t=false):Zdi P t j:=by
 intro l m L M ρ C u J I;refine⟨λw=>?_,D⟩;rcases ZiZ 5 10000 t j.zero (by omega) h l m L M ρ C u J I with⟨_,he⟩|⟨N,x,y,q,hd,_⟩
 ·exact he w
 ·obtain⟨fs,hs⟩:=hs;rw[q] at hs;injection hs with hs
  subst hs;cases hd
end Ev
namespace Ev
noncomputable section
def glL:List (Nat×List Cl):=[(0,[.s [73,68,51],.i .i64 1,.s [79,103,103,83],.i .i64 2,.s [102,76,97,67],.i .i64 3]),
 (1,[.i .u8 240,.i .u8 240,.i .u8 240,.i .u8 240,.i .u8 240,.i .u8 240,.i .u8 240,.i .u8 240,.i .u8 240,.i .u8 240,.i .u8 240,.i .u8 240,.i .u8 240,.i .u8 240,.i .u8 240,.i .u8 240,.i .u8 240,.i .u8 240,.i .u8 240,.i .u8 240,.i .u8 240,.i .u8 240,.i .u8 240,.i .u8 240,.i .u8 240,.i .u8 240,.i .u8 240,.i .u8 240,.i .u8 240,.i .u8 240,.i .u8 240,.i .u8 240,.i .u8 240,.i .u8 240,.i .u8 240,.i .u8 240,.i .u8 240,.i .u8 240,.i .u8 240,.i .u8 240,.i .u8 240,.i .u8 240,.i .u8 240,.i .u8 240,.i .u8 240,.i .u8 240,.i .u8 240,.i .u8 240,.i .u8 240,.i .u8 240,.i .u8 240,.i .u8 240,.i .u8 240,.i .u8 240,.i .u8 240,.i .u8 240,.i .u8 240,.i .u8 240,.i .u8 240,.i .u8 240,.i .u8 240,.i .u8 240,.i .u8 240,.i .u8 240,.i .u8 240,.i .u8 240,.i .u8 240,.i .u8 240,.i .u8 240,.i .u8 240,.i .u8 240,.i .u8 240,.i .u8 240,.i .u8 240,.i .u8 240,.i .u8 240,.i .u8 240,.i .u8 240,.i .u8 240,.i .u8 240,.i .u8 240,.i .u8 240,.i .u8 240,.i .u8 240,.i .u8 240,.i .u8 240,.i .u8 240,.i .u8 240,.i .u8 240,.i .u8 240,.i .u8 240,.i .u8 240,.i .u8 240,.i .u8 240,.i .u8 240,.i .u8 240,.i .u8 240,.i .u8 240,.i .u8 240,.i .u8 240,.i .u8 240,.i .u8 240,.i .u8 240,.i .u8 240,.i .u8 240,.i .u8 240,.i .u8 240,.i .u8 240,.i .u8 240,.i .u8 240,.i .u8 240,.i .u8 240,.i .u8 240,.i .u8 240,.i .u8 240,.i .u8 240,.i .u8 240,.i .u8 240,.i .u8 240,.i .u8 240,.i .u8 240,.i .u8 240,.i .u8 240,.i .u8 240,.i .u8 240,.i .u8 240,.i .u8 240,.i .u8 240,.i .u8 241,.i .u8 241,.i .u8 241,.i .u8 241,.i .u8 241,.i .u8 241,.i .u8 241,.i .u8 241,.i .u8 241,.i .u8 241,.i .u8 241,.i .u8 241,.i .u8 241,.i .u8 241,.i .u8 241,.i .u8 241,.i .u8 241,.i .u8 241,.i .u8 241,.i .u8 241,.i .u8 241,.i .u8 241,.i .u8 241,.i .u8 241,.i .u8 241,.i .u8 241,.i .u8 241,.i .u8 241,.i .u8 241,.i .u8 241,.i .u8 241,.i .u8 241,.i .u8 241,.i .u8 241,.i .u8 241,.i .u8 241,.i .u8 241,.i .u8 241,.i .u8 241,.i .u8 241,.i .u8 241,.i .u8 241,.i .u8 241,.i .u8 241,.i .u8 241,.i .u8 241,.i .u8 241,.i .u8 241,.i .u8 241,.i .u8 241,.i .u8 241,.i .u8 241,.i .u8 241,.i .u8 241,.i .u8 241,.i .u8 241,.i .u8 241,.i .u8 241,.i .u8 241,.i .u8 241,.i .u8 241,.i .u8 241,.i .u8 241,.i .u8 241,.i .u8 241,.i .u8 241,.i .u8 2,.i .u8 2,.i .u8 2,.i .u8 2,.i .u8 2,.i .u8 2,.i .u8 2,.i .u8 2,.i .u8 2,.i .u8 2,.i .u8 2,.i .u8 2,.i .u8 2,.i .u8 2,.i .u8 2,.i .u8 2,.i .u8 2,.i .u8 2,.i .u8 2,.i .u8 2,.i .u8 2,.i .u8 2,.i .u8 2,.i .u8 2,.i .u8 2,.i .u8 2,.i .u8 2,.i .u8 2,.i .u8 2,.i .u8 2,.i .u8 19,.i .u8 3,.i .u8 3,.i .u8 3,.i .u8 3,.i .u8 3,.i .u8 3,.i .u8 3,.i .u8 3,.i .u8 3,.i .u8 3,.i .u8 3,.i .u8 3,.i .u8 35,.i .u8 3,.i .u8 3,.i .u8 52,.i .u8 4,.i .u8 4,.i .u8 4,.i .u8 68,.i .u8 241,.i .u8 241,.i .u8 241,.i .u8 241,.i .u8 241,.i .u8 241,.i .u8 241,.i .u8 241,.i .u8 241,.i .u8 241,.i .u8 241]),
 (2,[.i .u8 128,.i .u8 191,.i .u8 160,.i .u8 191,.i .u8 128,.i .u8 159,.i .u8 144,.i .u8 191,.i .u8 128,.i .u8 143,.i .u8 0,.i .u8 0,.i .u8 0,.i .u8 0,.i .u8 0,.i .u8 0,.i .u8 0,.i .u8 0,.i .u8 0,.i .u8 0,.i .u8 0,.i .u8 0,.i .u8 0,.i .u8 0,.i .u8 0,.i .u8 0,.i .u8 0,.i .u8 0,.i .u8 0,.i .u8 0,.i .u8 0,.i .u8 0]),
 (4,[.i .u8 0,.i .u8 1,.i .u8 28,.i .u8 2,.i .u8 29,.i .u8 14,.i .u8 24,.i .u8 3,.i .u8 30,.i .u8 22,.i .u8 20,.i .u8 15,.i .u8 25,.i .u8 17,.i .u8 4,.i .u8 8,.i .u8 31,.i .u8 27,.i .u8 13,.i .u8 23,.i .u8 21,.i .u8 19,.i .u8 16,.i .u8 7,.i .u8 26,.i .u8 12,.i .u8 18,.i .u8 6,.i .u8 11,.i .u8 5,.i .u8 10,.i .u8 9])]
def Zf5:List (Nat×List Cl)->Nat->Option (List Cl)
 |[],_=>none
 |x::l,g=>if x.1=g then some x.2 else Zf5 l g
structure Gl (w:World):Prop where
 ls:∀x∈glL,x.1<w.heap.size/\∃m:List Value,(∀j u,m[j]? =some u->w.cell? ⟨x.1,j,none⟩=some u)/\∀ρ,LR ρ x.2 m
 tb:Lib.Utf8Tabs 1 2 w
 ml:3<w.heap.size/\∃m,w.cell? ⟨3,0,none⟩=some (.int .i64 m)
def eqL:List Nat:=[34,114,38,182,58,171,29,261]
def E0:Env:={ty:=λt=>tyT.get t 20,fn:=λf=>fnT.get f 20,gl:=Zf5 glL,eqt:=λt=>eqL.contains t}
def Zm1:∀{l:List (Nat×List Cl)} {g:Nat} {c:List Cl},Zf5 l g=some c->(g,c)∈l
 |[],g,c,h=>by simp[Zf5] at h
 |x::l,g,c,h=>by
  simp only[Zf5] at h;split at h
  ·rename_i e
   injection h with h
   subst e h;exact List.mem_cons_self ..
  ·exact List.mem_cons_of_mem _ (Zm1 h)
def Zjg(P:Program)(t:Nat):Bool:=match P.underlying t with
 |some (.struct _)=>true
 |_=>false
def eqL_ok:(eqL.all λt=>Zjg prog t&&(!prog.eqGuardType prog.depth t&&(match tyT.get t 20 with|some j=>Zfb prog 5 t j.zero|none=>true)))=true:=by decide+kernel
def ZuA{P:Program}{t:Nat}(h:Zjg P t=true):∃fs,P.underlying t=some (.struct fs):=by
 unfold Zjg at h;split at h
 ·exact⟨_, ‹_›⟩
 ·cases h
def E0_ok{w0:World}(L:Gl w0):EOk prog E0 w0.heap.size w0 where
 ty:=λt D h=>Zpo h
 eq:=λt D C N=>by
  have y:=List.all_eq_true.1 eqL_ok t (by simpa[E0] using C);have I:tyT.get t 20=some D:=N;rw[I] at y;simp only[Bool.and_eq_true,Bool.not_eq_true'] at y;obtain⟨fs,q⟩:=ZuA y.1;refine⟨Zt1 y.2.2 ⟨fs,q⟩ y.2.1,λn e J=>?_⟩;obtain⟨d,j,u⟩:=(Zpo I).und;rw[q] at j;injection j with j
  subst j;rw[J] at u;exact u.elim
 gl:=λg l h=>L.ls _ (Zm1 h)
 fn:=λf F h=>by
  have C:=Tr.ofL_mem (show(Tr.ofL fnL).get f 20=some F from h);exact⟨fnL_ok _ C,by simpa using List.all_eq_true.1 fnL_nm _ C⟩
 mixed:=ZuX
def Gl.below{w0 w:World}(h:Gl w0)(hb:Below w0.heap.size w0 w):Gl w where
 ls:=λx C=>by
  obtain⟨q,m,y,I⟩:=h.ls x C;exact⟨Nat.lt_of_lt_of_le q hb.size,m,λj u D=>(hb.cell (p:=⟨x.1,j,none⟩) q).trans (y j u D),I⟩
 tb:=Utf8Tabs_below h.tb hb
 ml:=by
  obtain⟨q,m,y⟩:=h.ml;exact⟨Nat.lt_of_lt_of_le q hb.size,m,(hb.cell (p:=⟨_,0,none⟩) q).trans y⟩
def clo:Cl->Bool
 | .p _ _=>false
 | .sl _ _ _ _=>false
 | .fn _ fs cs=>fs.isEmpty&&cs.isEmpty
 | .m _=>false
 |_=>true
def clo0:A0->Bool
 | .c x=>clo x
 | .a l=>l.all clo
def cloA:AV->Bool
 | .c x=>clo x
 | .a l=>l.all clo
 | .t l=>l.all clo0
def PW.all{α:Type}{R S:α->Value->Prop}{p:α->Bool}(h:∀x v,p x=true->R x v->S x v):∀{l:List α} {m:List Value},l.all p=true->PW R l m->PW S l m
 |[],[],_,_=>trivial
 |_::_,_::_,j,q=>by
  simp only[List.all_cons,Bool.and_eq_true] at j;exact⟨h _ _ j.1 q.1,PW.all h j.2 q.2⟩
 |[],_::_,_,h=>h.elim
 |_::_,[],_,h=>h.elim
def VR.clo{ρ σ:Rho}(x:Cl)(v:Value)(j:clo x=true)(h:VR ρ x v):VR σ x v:=by
 cases x<;>first|exact h|(cases j;done)|skip
 rename_i f fs cs
 simp only[Ev.clo,Bool.and_eq_true,List.isEmpty_iff] at j;obtain⟨rfl,rfl⟩:=j;obtain⟨m,n,rfl,u,q⟩:=h
 match m,n,u,q with
 |[],[],_,_=>exact⟨[],[],rfl,trivial,trivial⟩
def A0R.clo{ρ σ:Rho}(x:A0)(v:Value)(j:clo0 x=true)(h:A0R ρ x v):A0R σ x v:=by
 cases x with
 |c x=>exact VR.clo x v j h
 |a l=>
  obtain⟨m,rfl,q⟩:=h;exact⟨m,rfl,PW.all (λx v=>VR.clo x v) j q⟩
def AR.clo{ρ σ:Rho}(x:AV)(v:Value)(q:cloA x=true)(h:AR ρ x v):AR σ x v:=by
 cases x with
 |c x=>exact VR.clo x v q h
 |a l=>
  obtain⟨m,rfl,j⟩:=h;exact⟨m,rfl,PW.all (λx v=>VR.clo x v) q j⟩
 |t l=>
  obtain⟨m,rfl,j⟩:=h;exact⟨m,rfl,PW.all (λx v=>A0R.clo x v) q j⟩
structure Told where
 f:Nat
 args:List AV
 v:AV
def ToldOk(t:Told):Prop:=∀w,Gl w->∀(ρ:Rho) (A:List Value),PW (AR ρ) t.args A->Calls prog t.f A.toArray w (λe w'=>∃V,e=.returned V/\(∀σ,AR σ t.v V)/\Below w.heap.size w w')
def Zfl:List Told->Nat->List AV->Option AV
 |[],_,_=>none
 |t::l,f,args=>if t.f=f then(if t.args=args then some t.v else Zfl l f args) else Zfl l f args
def Zjx:∀{L:List Told} {f:Nat} {args:List AV} {v:AV},Zfl L f args=some v->∃t∈L,t.f=f/\t.args=args/\t.v=v
 |[],_,_,_,h=>by simp[Zfl] at h
 |t::L,f,args,v,h=>by
  simp only[Zfl] at h;split at h
  ·rename_i C
   split at h
   ·rename_i y
    injection h with h
    exact⟨t,List.mem_cons_self ..,C,y,h⟩
   ·obtain⟨u,q,j⟩:=Zjx h;exact⟨u,List.mem_cons_of_mem _ q,j⟩
  ·obtain⟨u,q,j⟩:=Zjx h;exact⟨u,List.mem_cons_of_mem _ q,j⟩
end
end Ev
namespace Ev
noncomputable section
def Zgx:List Cl->Option (List (List UInt8))
 |[]=>some []
 | .s x::l=>opt (Zgx l) λr=>some (x::r)
 |_=>none
def oJoin(h:Hp):List AV->Option AV
 |[.c .zs,.c (.s _)]=>some (.c (.s []))
 |[.c (.sl i o len _),.c (.s j)]=>if len=0 then some (.c (.s [])) else match look h i with
  |some (.cl l _ _ _)=>opt (Zgx ((l.drop o).take len)) λxs=>if xs.length=len/\len<=1000000/\(Lib.join xs j).length<=1000000 then some (.c (.s (Lib.join xs j))) else none
  |_=>none
 |_=>none
def ZnN:List AV->Option AV
 |[.c (.s l),.c (.i .u8 n)]=>some (.c (.i .i64 (Lib.indexByte l n.toNat.toUInt8)))
 |_=>none
def ZnM:List AV->Option AV
 |[.c (.s l),.c (.s m)]=>if l.length<1000000 then some (.c (.i .i64 (Lib.index l m))) else none
 |_=>none
def ZnL:List AV->Option AV
 |[.c (.s l),.c (.s m)]=>if l.length<1000000/\1<=m.length then some (.c (.i .i64 (Lib.countB (Bs l) (Bs m)))) else none
 |_=>none
def ZnO:List AV->Option AV
 |[.c (.s l),.c (.i .i64 (.ofNat n))]=>if l.length*n<=100000/\n<=100000 then some (.c (.s (Lib.repeatL l n))) else none
 |_=>none
def ZnP:List AV->Option AV
 |[.c (.s l)]=>if l.length<=1000000 then some (.c (.b (Lib.validD l))) else none
 |_=>none
def orcS(f:Nat)(args:List AV)(h:Hp):Option AV:=
 if f=67 then oJoin h args
 else if f=60 then ZnN args
 else if f=331 then ZnM args
 else if f=372 then ZnL args
 else if f=33 then ZnO args
 else if f=168 then ZnP args
 else none
def orcA(L:List Told)(f:Nat)(args:List AV)(h:Hp):Option AV:=match Zfl L f args with
 |some v=>some v
 |none=>orcS f args h
def PW.two{ρ:Rho}{a b:AV}{A:List Value}(h:PW (AR ρ) [a,b] A):∃x y,A=[x,y]/\AR ρ a x/\AR ρ b y:=by
 match A,h with
 |[x,y],h=>exact⟨x,y,rfl,h.1,h.2.1⟩
def PW.one{ρ:Rho}{a:AV}{A:List Value}(h:PW (AR ρ) [a] A):∃x,A=[x]/\AR ρ a x:=by
 match A,h with
 |[x],h=>exact⟨x,rfl,h.1⟩
def Zph{ρ:Rho}:∀{l:List Cl} {xs:List (List UInt8)} {m:List Value},Zgx l=some xs->LR ρ l m->m=(xs.map Bs).map Value.string/\xs.length=l.length
 |[],xs,m,h,q=>by
  simp only[Zgx,Option.some.injEq] at h;subst h
  match m,q with
  |[],_=>exact⟨rfl,rfl⟩
 |c::l,xs,m,h,q=>by
  unfold Zgx at h;split at h
  ·rename_i j;cases j
  ·rename_i x I j
   injection j with e1 e2
   subst e1 e2;obtain⟨r,u,h⟩:=Zc h;injection h with h;subst h
   match m,q with
   |y::m,q=>
    obtain⟨D,C⟩:=Zph u q.2;have e:y=.string (Bs x):=q.1;subst e;exact⟨by rw[D];rfl,by simp[C]⟩
  ·cases h
def ml_ok{w:World}(j:Gl w):∃m,w.cell? ⟨3,0,none⟩=some (.int .i64 m):=j.ml.2
def Zvr{w0:World}(hg:Gl w0):ZfK prog w0.heap.size w0 orcS:=by
 intro f args h v q ρ nx w A hI X;have W:=hg.below hI.low;unfold orcS at q;split at q
 ·rename_i N
  subst N;unfold oJoin at q;split at q
  ·obtain⟨x,y,rfl,I,J⟩:=PW.two X;simp only[Option.some.injEq] at q;subst q;have U:x=.slice none 0 0:=I
   rename_i D
   have O:y=.string (Bs D):=J;subst U O;exact(strings_Join_none none 0 (Bs D) w).mono λe w' ⟨he,hw⟩=>⟨_,he,rfl,hw▸Below.refl _ _⟩
  ·rename_i i o len cut D
   obtain⟨x,y,rfl,I,J⟩:=PW.two X;obtain⟨b,c,o',hb,hc,ac,rfl⟩:AR ρ (.c (.sl i o len cut)) x:=I;have O:y=.string (Bs D):=J;subst O;split at q
   ·rename_i hz
    subst hz;simp only[Option.some.injEq] at q;subst q;exact(strings_Join_none _ _ (Bs D) w).mono λe w' ⟨he,hw⟩=>⟨_,he,rfl,hw▸Below.refl _ _⟩
   ·rename_i hz
    split at q
    case h_2=>cases q
    rename_i l ty sz row ad
    obtain⟨xs,h1,q⟩:=Zc q;split at q
    case isFalse=>cases q
    rename_i Y
    simp only[Option.some.injEq] at q;subst q;have af:=ac (.inl hz);subst af;obtain⟨b2,c2,Z,m,rest,fz,q2,q3,_⟩:=hI.ob _ (Zbq ad);simp only at Z;rw[Z] at hb;injection hb with hb
    injection hb with hb hb'
    subst hb hb';obtain⟨g1,g2⟩:=Zph h1 ((q3.drop o').take len);have V:((xs.map Bs).map (λx=>x.data.toList))=xs:=by simp[Bs,Function.comp_def]
    have C:=strings_Join b2 o' (c2 - cut) (xs.map Bs) (Bs D) w (λj u hu=>by
     rw[cell_of_row w b2 _ _ ty fz q2];have:((m.drop o').take len)[j]?=some (.string u):=by
      rw[g1,List.getElem?_map,hu];rfl
     rw[List.getElem?_take] at this;split at this
     ·rw[List.getElem?_drop] at this;have L:=(List.getElem?_eq_some_iff.1 this).1;simp only[List.getElem?_toArray];rw[List.getElem?_append_left L];exact this
     ·cases this) (hI.rng _ _ _ Z).2 (by simp;omega) (by simp;omega) (by rw[V,ZdE];omega)
    rw[V,ZdE,List.length_map,Y.1] at C;exact C.mono λe w' ⟨he,hw⟩=>⟨_,he,rfl,hw⟩
  ·cases q
 split at q
 ·rename_i N
  subst N;unfold ZnN at q;split at q
  ·rename_i l n
   obtain⟨x,y,rfl,I,J⟩:=PW.two X;have U:x=.string (Bs l):=I;have O:y=.int .u8 n:=J;subst U O;simp only[Option.some.injEq] at q;subst q;have C:=strings_IndexByte (Bs l) n w;rw[ZdE] at C;exact C.mono λe w' ⟨he,hw⟩=>⟨_,he,rfl,hw▸Below.refl _ _⟩
  ·cases q
 split at q
 ·rename_i N
  subst N;unfold ZnM at q;split at q
  ·rename_i l m
   split at q
   case isFalse=>cases q
   rename_i L
   obtain⟨x,y,rfl,I,J⟩:=PW.two X;have U:x=.string (Bs l):=I;have O:y=.string (Bs m):=J;subst U O;simp only[Option.some.injEq] at q;subst q;obtain⟨k,hk⟩:=ml_ok W;have C:=strings_Index (Bs l) (Bs m) k w (by rw[Zb6];omega) hk;rw[ZdE,ZdE] at C;exact C.mono λe w' ⟨he,hw⟩=>⟨_,he,rfl,hw▸Below.refl _ _⟩
  ·cases q
 split at q
 ·rename_i N
  subst N;unfold ZnL at q;split at q
  ·rename_i l m
   split at q
   case isFalse=>cases q
   rename_i L
   obtain⟨x,y,rfl,I,J⟩:=PW.two X;have U:x=.string (Bs l):=I;have O:y=.string (Bs m):=J;subst U O;simp only[Option.some.injEq] at q;subst q;obtain⟨k,hk⟩:=ml_ok W;have C:=strings_Count_any (Bs l) (Bs m) k w (by rw[Zb6];omega) hk (by rw[Zb6];omega);exact C.mono λe w' ⟨he,hw⟩=>⟨_,he,rfl,hw▸Below.refl _ _⟩
  ·cases q
 split at q
 ·rename_i N
  subst N;unfold ZnO at q;split at q
  ·rename_i l n
   split at q
   case isFalse=>cases q
   rename_i L
   obtain⟨x,y,rfl,I,J⟩:=PW.two X;have U:x=.string (Bs l):=I;have O:y=.int .i64 (Int.ofNat n):=J;subst U O;simp only[Option.some.injEq] at q;subst q;have C:=strings_Repeat (Bs l) n w (by omega) (by rw[Zb6];omega);rw[ZdE] at C;exact C.mono λe w' ⟨he,hw⟩=>⟨_,he,rfl,hw⟩
  ·cases q
 split at q
 ·rename_i N
  subst N;unfold ZnP at q;split at q
  ·rename_i l
   split at q
   case isFalse=>cases q
   rename_i L
   obtain⟨x,rfl,I⟩:=PW.one X;have U:x=.string (Bs l):=I;subst U;simp only[Option.some.injEq] at q;subst q;have C:=Any.utf8_ValidString laysValid (Bs l) w (by rw[Zb6];omega) W.tb;rw[ZdE] at C;exact C.mono λe w' ⟨he,hw⟩=>⟨_,he,rfl,hw⟩
  ·cases q
 ·cases q
def ZU{L:List Told}(X:∀t∈L,ToldOk t)(esc:Nat->Bool)(n f:Nat)(args:List AV)(v:AV)(U:args.all cloA=true)(J:cloA v=true)(O:run E0 (orcA L) esc n f args=some v):ToldOk ⟨f,args,v⟩:=by
 intro w y ρ A q;have C:∀σ,PW (AR σ) args A:=λσ=>PW.all (λx u=>AR.clo x u) U q;have W:ZfK prog w.heap.size w (orcA L):=by
  intro f args h v j ρ nx D A I q;unfold orcA at j;split at j
  ·rename_i u N
   injection j with j
   subst j;obtain⟨t,Y,rfl,rfl,rfl⟩:=Zjx N;exact(X t Y D (y.below I.low) ρ A q).mono λe w' ⟨V,he,hV,hb⟩=>⟨V,he,hV ρ,hb⟩
  ·exact Zvr y f args h v j ρ nx D A I q
 exact(run_ok rfl (E0_ok y) W esc C O).mono λe w' ⟨σ,V,he,hV,hb⟩=>⟨V,he,λτ=>AR.clo _ _ J hV,hb⟩
def tAw(f:Nat):Told:=⟨f,[],.c (.b true)⟩
def ZP(f:Nat):Bool:=f==287||(f==234||(f==288))
end
end Ev
