/- Lemmas for a statement on the tops; conditions: as each says. -/
import Derived.Below
import Derived.Maps.AppendAt
import Derived.Test.YtjilfbhkdjanhaaGreatDoorM4
set_option linter.all false
set_option maxRecDepth 100000
set_option maxHeartbeats 200000
namespace Go.Proofs.YtjilfbhkdjanhaaGreatDoor
open Go
namespace Ev
section
variable {P:Program} {E:Env} {ρ:Rho} {t:List AV} {a:Act} {o:Oper} {v:AV}
theorem ZoO{α β:Type}(f:α->Sem β)(g:α->β):∀(l:List α) (w:World),(∀x∈l,∀w,(f x).run P w=.ok (g x) w)->(l.mapM f).run P w=.ok (l.map g) w
 |[],w,_=>by simp
 |x::l,w,h=>by
  rw[List.mapM_cons];simp[h x (by simp),ZoO f g l w (λy j=>h y (by simp[j]))]
theorem Zwf{α β:Type}(f:α->Sem β)(g:α->β)(l:Array α)(w:World)(h:∀x∈l,∀w,(f x).run P w=.ok (g x) w):(l.mapM f).run P w=.ok (l.map g) w:=by
 rw[Array.mapM_eq_mapM_toList];simp only[Sem.run_map,ZoO f g l.toList w (λx j=>h x (by simpa using j)),Result.andThen_ok];congr 1
 apply Array.ext'
 simp
theorem run_build(hE:∀t L,E.ty t=some L->TyOk P t L)(Z:TR ρ t a){ty:Nat}{ps:Array (Nat×Operand)}(h:pop E t (.build ty ps)=some v):
 ∃V,AR ρ v V/\∀w,(Instr.build ty (ps.map λ(i,x)=>(i,a.eval x))).run P w=.ok V w:=by
 simp only[pop,ZnZ] at h;obtain⟨L,h1,h⟩:=Zc h;have hT:=hE _ _ h1;obtain⟨d,I,j⟩:=hT.und;obtain⟨z,C,y,ac,ab⟩:=hT.zero;split at h
 ·rename_i fs O
  rw[O] at j;obtain⟨l,X,h⟩:=Zc h;injection h with h;subst h
  cases d<;>first|exact j.elim|skip
  rename_i fields
  obtain⟨e1,e2⟩:=j;have N:places fs=λi=>(fields.map λf=>(f.offset,P.cellsOf f.type))[i]?:=by
   funext i
   rw[places,ZbF,e1];simp only[List.getElem?_map,Array.getElem?_map,Array.getElem?_toList];cases fields[i]? <;>rfl
  obtain⟨u,J,Y⟩:=Zhi Z X (y ρ);refine⟨.agg u,⟨u.toList,by simp,Y⟩,λw=>?_⟩;have D:∀w,(fields.mapM (λf=>(do pure (f.offset,<-sizeOf f.type):Sem (Nat×Nat)))).run P w=.ok (fields.map λf=>(f.offset,P.cellsOf f.type)) w:=λw=>
   Zwf _ _ fields w (λf hf w=>by
    have:=e2 f hf;cases U:P.info? f.type with
    |none=>rw[U] at this;cases this
    |some info=>simp[sizeOf,run_ti U,Program.cellsOf,U])
  rw[N] at J;have q:(ps.map λ(i,x)=>(i,a.eval x)).toList=ps.toList.map λp=>(p.1,a.eval p.2):=by simp
  simp only[Instr.build,Sem.run_bind,C,Result.andThen_ok,run_und I,D,q,J];rfl
 ·rename_i n e O
  rw[O] at j;obtain⟨te,h3,h⟩:=Zc h;have W:=hE _ _ h3;obtain⟨l,X,h⟩:=Zc h;injection h with h;subst h
  cases d<;>first|exact j.elim|skip
  obtain⟨rfl,rfl⟩:=j;obtain⟨u,J,Y⟩:=Zhi Z X (y ρ);refine⟨.agg u,⟨u.toList,by simp,Y⟩,λw=>?_⟩;have q:(ps.map λ(i,x)=>(i,a.eval x)).toList=ps.toList.map λp=>(p.1,a.eval p.2):=by simp
  simp only[Instr.build,Sem.run_bind,C,Result.andThen_ok,run_und I,W.sizeOf,q,J];rfl
 ·cases h
theorem Zf1{x:Operand}{n:Nat}(j:TR ρ t a)(h:evN t x=some n):∃k,a.eval x=.int k n:=by
 unfold evN at h;split at h
 ·rename_i k u q
  injection h with h;subst h
  exact⟨k,Zl j q⟩
 ·cases h
theorem ZiW{x:Operand}{b:Bool}(j:TR ρ t a)(h:evB t x=some b):a.eval x=.bool b:=by
 unfold evB at h;split at h
 ·rename_i q
  injection h with h;subst h
  exact Zl j q
 ·cases h
theorem ZwP(l:List UInt8)(n:Nat):(Bs l)[n]?=l[n]?:=by
 by_cases h:n<l.length
 ·rw[getElem?_pos (Bs l) n (by simpa[Bs,ByteArray.size] using h),List.getElem?_eq_getElem h];rfl
 ·rw[getElem?_neg (Bs l) n (by simpa[Bs,ByteArray.size] using h),List.getElem?_eq_none (by omega)]
theorem Zb6(l:List UInt8):(Bs l).size=l.length:=by simp[Bs,ByteArray.size]
theorem ZdE(l:List UInt8):(Bs l).data.toList=l:=by simp[Bs]
theorem Bs_of(s:ByteArray):s=Bs s.data.toList:=by simp[Bs]
theorem Bs_ext(l:List UInt8)(a b:Nat):(Bs l).extract a b=Bs ((l.drop a).take (b - a)):=by
 rw[Bs_of ((Bs l).extract a b)];congr 1
 simp[Bs,List.extract_eq_take_drop]
theorem ZgH(l:List UInt8):(Bs l).toList=l:=by rw[ByteArray.toList_eq,ZdE]
theorem add_eq(b o n:Nat):(⟨b,o,none⟩:Addr).add n=⟨b,o+n,none⟩:=by unfold Addr.add;split<;>simp_all
theorem Zwd(W:∀t D,E.ty t=some D->TyOk P t D)(J:TR ρ t a){ty:Nat}{x i:Operand}(h:pop E t (.index ty x i)=some v):
 ∃V,AR ρ v V/\∀w,(Instr.index ty (a.eval x) (a.eval i)).run P w=.ok V w:=by
 simp only[pop,Zn4] at h;obtain⟨n,h0,h⟩:=Zc h;obtain⟨D,h1,h⟩:=Zc h;obtain⟨k,U⟩:=Zf1 J h0;have hT:=W _ _ h1;obtain⟨d,q,j⟩:=hT.und;split at h
 ·rename_i l N I
  rw[N] at j;cases d<;>first|exact j.elim|skip
  have O:a.eval x=.string (Bs l):=Zl J I;obtain⟨u,C,h⟩:=Zc h;injection h with h;subst h
  rw[ZbF] at C;refine⟨.int .u8 u.toNat,rfl,λw=>?_⟩;simp[Instr.index,U,O,asIntOf,run_und q,ZwP,C]
 ·rename_i kk e l N I
  rw[N] at j;cases d<;>first|exact j.elim|skip
  obtain⟨rfl,rfl⟩:=j;split at h
  ·rename_i L
   obtain⟨te,C,h⟩:=Zc h;have y:=W _ _ C;obtain⟨m,O,Y⟩:AR ρ (.a l) (a.eval x):=Zl J I;obtain⟨V,Z,X⟩:=ZhC y h Y;refine⟨V,Z,λw=>?_⟩;simp[Instr.index,U,O,asIntOf,run_und q,L,y.sizeOf,X]
  ·cases h
 ·cases h
theorem Zwe(U:∀t W,E.ty t=some W->TyOk P t W)(O:TR ρ t a){ty:Nat}{x i:Operand}(h:pop E t (.indexAddr ty x i)=some v):
 ∃V,AR ρ v V/\∀w,(Instr.indexAt ty (a.eval x) (a.eval i)).run P w=.ok V w:=by
 simp only[pop,Zn5] at h;obtain⟨n,h0,h⟩:=Zc h;obtain⟨W,h1,h⟩:=Zc h;obtain⟨k,Y⟩:=Zf1 O h0;have hT:=U _ _ h1;obtain⟨d,C,j⟩:=hT.und;split at h
 ·rename_i kk e id q J I
  rw[J] at j;cases d<;>first|exact j.elim|skip
  obtain⟨rfl,rfl⟩:=j;split at h
  ·rename_i u
   obtain⟨D,N,h⟩:=Zc h;have y:=U _ _ N;injection h with h;subst h
   obtain⟨b,c,hb,L⟩:AR ρ (.c (.p id q)) (a.eval x):=Zl O I;refine⟨.pointer (some ⟨b,q+n*D.size,none⟩),⟨b,c,hb,rfl⟩,λw=>?_⟩;simp[Instr.indexAt,Y,L,asIntOf,run_und C,u,y.sizeOf,Instr.sureAddr,add_eq]
  ·cases h
 ·rename_i kk e id q J I
  rw[J] at j;cases d<;>first|exact j.elim|skip
  obtain⟨rfl,rfl⟩:=j;split at h
  ·rename_i u
   obtain⟨D,N,h⟩:=Zc h;have y:=U _ _ N;injection h with h;subst h
   have L:a.eval x=.pointer (some ⟨id,q,none⟩):=Zl O I;refine⟨.pointer (some ⟨id,q+n*D.size,none⟩),rfl,λw=>?_⟩;simp[Instr.indexAt,Y,L,asIntOf,run_und C,u,y.sizeOf,Instr.sureAddr,add_eq]
  ·cases h
 ·rename_i e id q len cut J I
  rw[J] at j;cases d<;>first|exact j.elim|skip
  have Z:e=_:=j;subst Z;split at h
  ·rename_i u
   obtain⟨D,N,h⟩:=Zc h;have y:=U _ _ N;injection h with h;subst h
   obtain⟨b,c,o',hb,hc,ho,L⟩:AR ρ (.c (.sl id q len cut)) (a.eval x):=Zl O I;have X:o'=q:=ho (.inl (by omega));subst X;refine⟨.pointer (some ⟨b,o'+n*D.size,none⟩),⟨b,c,hb,rfl⟩,λw=>?_⟩;simp[Instr.indexAt,Y,L,asIntOf,run_und C,u,y.sizeOf,add_eq]
  ·cases h
 ·cases h
theorem Zwb(I:∀t u,E.ty t=some u->TyOk P t u)(L:TR ρ t a){ty:Nat}{x:Operand}{f:Nat}(h:pop E t (.field ty x f)=some v):
 ∃V,AR ρ v V/\∀w,(Instr.field ty (a.eval x) f).run P w=.ok V w:=by
 simp only[pop,Zn2] at h;obtain⟨u,Z,h⟩:=Zc h;have hT:=I _ _ Z;obtain⟨d,C,j⟩:=hT.und;split at h
 ·rename_i fs l U J
  rw[U] at j;cases d<;>first|exact j.elim|skip
  rename_i fields
  obtain⟨e1,e2⟩:=j;obtain⟨fo,q,h⟩:=Zc h;obtain⟨tf,Y,h⟩:=Zc h;have D:=I _ _ Y;obtain⟨m,W,O⟩:AR ρ (.a l) (a.eval x):=Zl L J;rw[ZbF,e1,List.getElem?_map,Array.getElem?_toList] at q;cases y:fields[f]? with
  |none=>rw[y] at q;cases q
  |some fl=>
   rw[y] at q;simp only[Option.map_some,Option.some.injEq] at q;subst q;obtain⟨V,X,N⟩:=ZhC D h O;refine⟨V,X,λw=>?_⟩;simp[Instr.field,W,run_und C,y,asAgg,N]
 ·cases h
theorem Zwc(hE:∀t N,E.ty t=some N->TyOk P t N)(Y:TR ρ t a){ty:Nat}{x:Operand}{f:Nat}(h:pop E t (.fieldAddr ty x f)=some v):
 ∃V,AR ρ v V/\∀w,(Instr.fieldAt ty (a.eval x) f).run P w=.ok V w:=by
 simp only[pop,Zn3] at h;obtain⟨N,h1,h⟩:=Zc h;have hT:=hE _ _ h1;obtain⟨d,D,q⟩:=hT.und;have key:∀(fields:Array Field) (fs:List (Nat×Nat×Nat)) (y:Nat×Nat×Nat) (b j:Nat),fs=fields.toList.map (λf=>(f.type,f.offset,P.cellsOf f.type))->(∀f∈fields,(P.info? f.type).isSome=true)->
  ZaW fs f=some y->y.2.2≠0->P.underlying ty=some (.struct fields)->∀w,(Instr.fieldAt ty (.pointer (some ⟨b,j,none⟩)) f).run P w=.ok (.pointer (some ⟨b,j+y.2.1,none⟩)) w:=by
  intro fields fs y b j J I u h3 Z w;rw[ZbF,J,List.getElem?_map,Array.getElem?_toList] at u;cases L:fields[f]? with
  |none=>rw[L] at u;cases u
  |some fl=>
   rw[L] at u;simp only[Option.map_some,Option.some.injEq] at u;subst u;have:=I fl (Array.mem_of_getElem? L);cases W:P.info? fl.type with
   |none=>rw[W] at this;cases this
   |some info=>
    have hs:info.size≠0:=by simpa[Program.cellsOf,W] using h3
    simp[Instr.fieldAt,run_und Z,L,Instr.sureAddr,fieldPlace,sizeOf,run_ti W,hs,add_eq]
 split at h
 ·rename_i fs id j U O
  rw[U] at q;cases d<;>first|exact q.elim|skip
  rename_i fields
  obtain⟨J,I⟩:=q;obtain⟨y,u,h⟩:=Zc h;split at h
  ·cases h
  ·rename_i C
   injection h with h;subst h
   obtain⟨b,c,hb,X⟩:AR ρ (.c (.p id j)) (a.eval x):=Zl Y O;exact⟨_,⟨b,c,hb,rfl⟩,λw=>by rw[X];exact key fields fs y b j J I u C D w⟩
 ·rename_i fs id j U O
  rw[U] at q;cases d<;>first|exact q.elim|skip
  rename_i fields
  obtain⟨J,I⟩:=q;obtain⟨y,u,h⟩:=Zc h;split at h
  ·cases h
  ·rename_i C
   injection h with h;subst h
   have X:a.eval x=.pointer (some ⟨id,j,none⟩):=Zl Y O;exact⟨_,rfl,λw=>by rw[X];exact key fields fs y id j J I u C D w⟩
 ·cases h
end
end Ev
namespace Ev
def Zdi(P:Program)(t:Nat)(j:TI):Prop:=∀(l m:List Cl) (L M:List Value) (ρ:Rho),shp j.zero l=true->shp j.zero m=true->LR ρ l L->LR ρ m M->
 (∀w,(Op.equal t (.agg L.toArray) (.agg M.toArray)).run P w=.ok (decide (l=m)) w)/\P.eqGuardType P.depth t=false
section
variable {P:Program} {E:Env} {ρ:Rho} {t:List AV} {a:Act} {o:Oper} {v:AV}
theorem ZmI{x:Option Operand}{d n:Nat}(j:TR ρ t a)(h:evO t d x=some n):(x=none/\n=d)\/∃y k,x=some y/\a.eval y=.int k n:=by
 cases x with
 |none=>simp only[evO,Option.some.injEq] at h;exact .inl ⟨rfl,h.symm⟩
 |some y=>
  obtain⟨k,q⟩:=Zf1 j (show evN t y=some n from h);exact .inr ⟨y,k,rfl,q⟩
theorem ZhJ{k:IntKind}{n y:Nat}(j:BoundsCode)(h:n<=y)(w:World):(Instr.sliceBound (.int k n) y j).run P w=.ok n w:=by
 simp[Instr.sliceBound,asIntOf,h]
theorem ZhK{q I:Option Operand}{l h len cap:Nat}(j:Bool)(D:TR ρ t a)(O:evO t 0 q=some l)(N:evO t len I=some h)(L:l<=h)(J:h<=cap)(w:World):
 (Instr.sliceBounds j len cap (q.map a.eval) (I.map a.eval) none).run P w=.ok (l,h,cap) w:=by
 rcases ZmI D O with⟨rfl,rfl⟩|⟨y,k,rfl,C⟩<;>rcases ZmI D N with⟨rfl,rfl⟩|⟨z,U,rfl,u⟩
 ·simp[Instr.sliceBounds]
 ·simp[Instr.sliceBounds,u,ZhJ _ J]
 ·simp[Instr.sliceBounds,C,ZhJ _ L]
 ·simp[Instr.sliceBounds,C,u,ZhJ _ L,ZhJ _ J]
theorem Zwg(hE:∀t ti,E.ty t=some ti->TyOk P t ti)(N:TR ρ t a){ty:Nat}{x:Operand}{lo hi mx:Option Operand}(h:pop E t (.slice ty x lo hi mx)=some v):
 ∃V,AR ρ v V/\∀w,(Instr.sliceAt ty (a.eval x) (lo.map a.eval) (hi.map a.eval) (mx.map a.eval)).run P w=.ok V w:=by
 cases mx with
 |some q=>simp[pop] at h
 |none=>
 simp only[pop,Zn8] at h;obtain⟨ti,h1,h⟩:=Zc h;have hT:=hE _ _ h1;obtain⟨d,y,j⟩:=hT.und;split at h
 ·rename_i l X W
  rw[X] at j;cases d<;>first|exact j.elim|skip
  have L:a.eval x=.string (Bs l):=Zl N W;obtain⟨n,Z,h⟩:=Zc h;obtain⟨m,Y,h⟩:=Zc h;split at h
  ·rename_i hc
   injection h with h;subst h
   refine⟨.string (Bs ((l.drop n).take (m - n))),rfl,λw=>?_⟩;have hb:=λw=>ZhK (P:=P) (a:=a) (cap:=l.length) false N Z Y hc.1 hc.2 w;simp[Instr.sliceAt,Instr.slice,L,run_und y,Zb6,hb,Bs_ext]
  ·cases h
 ·rename_i e id O len cut X W
  rw[X] at j;cases d<;>first|exact j.elim|skip
  have I:e=_:=j;subst I;obtain⟨b,c,U,hb,hc,ho,L⟩:AR ρ (.c (.sl id O len cut)) (a.eval x):=Zl N W;obtain⟨n,Z,h⟩:=Zc h;obtain⟨m,Y,h⟩:=Zc h;split at h
  ·rename_i J
   obtain⟨te,h4,h⟩:=Zc h;have D:=hE _ _ h4;injection h with h;subst h
   have u:=λw=>ZhK (P:=P) (a:=a) (cap:=c - cut) true N Z Y J.1 (by omega) w;obtain⟨C,hC⟩:∃C,c - cut=C:=⟨_,rfl⟩
   rw[hC] at u L;by_cases hm:C=n
   ·refine⟨.slice (some ⟨b,U,none⟩) (m - n) (C - n),⟨b,c,U,hb,by omega,λhh=>?_,by congr 1;omega⟩,λw=>?_⟩
    ·have:m=n:=by omega
     rcases hh with hh|hh
     ·omega
     ·have:cut=0:=by omega
      have:n=0:=by omega
      subst this;rw[Nat.zero_mul,Nat.add_zero];exact ho (.inr ‹_›)
    ·simp only[Instr.sliceAt,Instr.slice,L,run_und y,u,D.sizeOf,Sem.run_bind,Result.andThen_ok,Option.map_none,if_pos hm,Sem.run_pure]
   ·refine⟨.slice (some ⟨b,U+n*te.size,none⟩) (m - n) (C - n),⟨b,c,U+n*te.size,hb,by omega,λhh=>?_,by congr 1;omega⟩,λw=>?_⟩
    ·have:U=O:=ho (by omega);rw[this]
    ·simp only[Instr.sliceAt,Instr.slice,L,run_und y,u,D.sizeOf,Sem.run_bind,Result.andThen_ok,Option.map_none,Option.map_some,if_neg hm,Sem.run_pure,add_eq]
  ·cases h
 ·rename_i e X W
  rw[X] at j;cases d<;>first|exact j.elim|skip
  have I:e=_:=j;subst I;have L:a.eval x=.slice none 0 0:=Zl N W;obtain⟨te,h4,h⟩:=Zc h;have D:=hE _ _ h4;obtain⟨n,Z,h⟩:=Zc h;obtain⟨m,Y,h⟩:=Zc h;split at h
  ·rename_i J
   simp only[Option.some.injEq] at h;subst h;obtain⟨rfl,rfl⟩:=J;have u:=λw=>ZhK (P:=P) (a:=a) (cap:=0) true N Z Y NL NL w;refine⟨.slice none 0 0,rfl,λw=>?_⟩;simp[Instr.sliceAt,Instr.slice,L,run_und y,u,D.sizeOf]
  ·cases h
 ·cases h
end
end Ev
namespace Ev
section
variable {P:Program} {E:Env} {ρ:Rho} {t:List AV} {a:Act} {o:Oper} {v:AV}
theorem Zj1(op:BinOp)(ty:Nat)(x y:Operand){A B:Value}(q:∀cs,A≠ .agg cs)(j:A≠ .nilIface)(w:World):(eqGuard op ty x y A B).run P w=.ok () w:=by
 cases A<;>first|exact absurd rfl (q _)|exact absurd rfl j|(cases op<;>simp[eqGuard])
theorem Zuz{op:BinOp}{k:IntKind}{x y:Int}{z:Cl}(h:Zjf op k x y=some z)(ty:Nat):∃V,VR ρ z V/\∀w,(binOp op ty (.int k x) (.int k y)).run P w=.ok V w:=by
 cases op<;>simp only[Zjf] at h<;>first
  |(injection h with h;subst h;exact⟨_,rfl,λw=>by simp[binOp,Op.intArith,Op.intBits,Op.intCmp,ZfA]⟩)
  |(split at h<;>first|(cases h;done)|(rename_i j;injection h with h;subst h;exact⟨_,rfl,λw=>by simp[binOp,Op.intDiv,j,ZfA]⟩))
  |cases h
theorem Zo5{op:BinOp}{k j:IntKind}{x y:Int}{z:Cl}(h:shOp op k x y=some z)(ty:Nat):∃V,VR ρ z V/\∀w,(binOp op ty (.int k x) (.int j y)).run P w=.ok V w:=by
 unfold shOp at h;split at h
 ·cases h
 ·rename_i q
  cases op<;>simp only at h<;>first
   |(injection h with h;subst h;exact⟨_,rfl,λw=>by simp[binOp,Op.shift,q,ZfA,ZvQ]⟩)
   |cases h
theorem ZwO{op:BinOp}{x y:List UInt8}{z:Cl}(h:Zkd op x y=some z)(ty:Nat):∃V,VR ρ z V/\∀w,(binOp op ty (.string (Bs x)) (.string (Bs y))).run P w=.ok V w:=by
 cases op
 case add=>
  simp only[Zkd] at h;split at h
  ·injection h with h;subst h
   refine⟨_,rfl,λw=>?_⟩;have j:¬(((Bs x).size+(Bs y).size:Nat):Int)>IntKind.i64.max:=by
    rw[Zb6,Zb6];have:IntKind.i64.max=9223372036854775807:=by decide
    omega
   simp only[binOp,Op.stringOp,if_neg j,Sem.run_pure];congr 2
  ·cases h
 case eql=>injection h with h;subst h;exact⟨_,rfl,λw=>by simp[binOp,Op.stringOp,ZgH]⟩
 case neq=>injection h with h;subst h;exact⟨_,rfl,λw=>by simp[binOp,Op.stringOp,ZgH]⟩
 all_goals cases h
theorem Zu2{ty:Nat}{C:TI}(hT:TyOk P ty C){x y:Cl}{X Y:Value}{b:Bool}(h:Zex C.k x y=some b)(u:VR ρ x X)(q:VR ρ y Y)(w:World)(U:Nat):(Op.equalIn (U+1) ty X Y).run P w=.ok b w/\X≠ .nilIface:=by
 obtain⟨d,j,D⟩:=hT.und;generalize C.k=K at*;unfold Zex at h;split at h<;>first|(cases h;done)|skip
 all_goals
  injection h with h
  subst h;cases d<;>first|exact D.elim|skip
 ·simp only[VR] at u q;subst u q;exact⟨by simp[Op.equalIn,run_und j],by simp⟩
 ·simp only[VR] at u q;subst u q;exact⟨by simp[Op.equalIn,run_und j],by simp⟩
 ·obtain⟨J,c,I,rfl⟩:=q;simp only[VR] at u;subst u;exact⟨by simp[Op.equalIn,run_und j],by simp⟩
 ·obtain⟨J,c,I,rfl⟩:=u;simp only[VR] at q;subst q;exact⟨by simp[Op.equalIn,run_und j],by simp⟩
 ·simp only[VR] at u q;subst u q;exact⟨by simp[Op.equalIn,run_und j],by simp⟩
 ·obtain⟨J,c,L,I,O,N,rfl⟩:=q;simp only[VR] at u;subst u;exact⟨by simp[Op.equalIn,run_und j],by simp⟩
 ·obtain⟨J,c,L,I,O,N,rfl⟩:=u;simp only[VR] at q;subst q;exact⟨by simp[Op.equalIn,run_und j],by simp⟩
 ·simp only[VR] at u q;subst u q;exact⟨by simp[Op.equalIn,run_und j],by simp⟩
 ·obtain⟨m,n,rfl,_⟩:=q;simp only[VR] at u;subst u;exact⟨by simp[Op.equalIn,run_und j],by simp⟩
 ·obtain⟨m,n,rfl,_⟩:=u;simp only[VR] at q;subst q;exact⟨by simp[Op.equalIn,run_und j],by simp⟩
theorem Zju{ty:Nat}{j:TI}(hT:TyOk P ty j){x y:Cl}{X Y:Value}{b:Bool}(h:Zex j.k x y=some b)(u:VR ρ x X)(q:VR ρ y Y)(w:World):(Op.equal ty X Y).run P w=.ok b w/\X≠ .nilIface:=by
 have hd:∀d:Nat,(Op.equalIn (d+1) ty X Y).run P w=.ok b w/\X≠ .nilIface:=by
  intro C;exact Zu2 hT h u q w C
 exact hd 9999
theorem Zu3{K:TK}{c d:Cl}{b:Bool}(h:Zex K c d=some b):(∀k n,c≠ .i k n)/\(∀l,c≠ .s l):=by
 constructor
 ·rintro k n rfl;cases K<;>simp[Zex] at h
 ·rintro l rfl;cases K<;>simp[Zex] at h
theorem ZmT{op:BinOp}{b:Option Bool}(h:Zhk op b=some v):∃y,b=some y/\((op=.eql/\v=.c (.b y))\/(op=.neq/\v=.c (.b !y))):=by
 unfold Zhk at h;split at h<;>first|(cases h;done)|(injection h with h;exact⟨_,rfl,by simp[h.symm]⟩)
theorem ZlY{ty:Nat}{X Y:Value}(j:(∃cs,X=.agg cs)\/∃x,VR ρ x X/\(∀k n,x≠ .i k n)/\∀l,x≠ .s l):
 binOp .eql ty X Y=(do pure (.bool (<-Op.equal ty X Y)))/\binOp .neq ty X Y=(do pure (.bool (!(<-Op.equal ty X Y)))):=by
 have key:∀X,((∃cs,X=Value.agg cs)\/∃x,VR ρ x X/\(∀k n,x≠ .i k n)/\∀l,x≠ .s l)->(∀k n,X≠ .int k n)/\(∀k n,X≠ .float k n)/\(∀k n m,X≠ .complex k n m)/\∀s,X≠ .string s:=by
  intro X h;rcases h with⟨cs,rfl⟩|⟨x,j,u,q⟩
  ·simp
  ·cases x<;>simp only[VR] at j<;>first
    |(subst j;simp;done)
    |(exact absurd rfl (u _ _))
    |(exact absurd rfl (q _))
    |(obtain⟨b,c,_,rfl⟩:=j;simp;done)
    |(obtain⟨b,c,o,_,_,_,rfl⟩:=j;simp;done)
    |(obtain⟨m,n,rfl,_⟩:=j;simp;done)
 obtain⟨I,D,C,y⟩:=key X j;cases X<;>first
  |exact absurd rfl (I _ _)
  |exact absurd rfl (D _ _)
  |exact absurd rfl (C _ _ _)
  |exact absurd rfl (y _)
  |exact⟨rfl,rfl⟩
  |(cases Y<;>exact⟨rfl,rfl⟩)
theorem Zv9(hE:∀t q,E.ty t=some q->TyOk P t q)(hq:∀t q,E.eqt t=true->E.ty t=some q->Zdi P t q){op:BinOp}{ty:Nat}{x y:Operand}{X Y:Value}{u u2:AV}(W:AR ρ u X)(U:AR ρ u2 Y)(h:binV E op ty u u2=some v):
 ∃V,AR ρ v V/\∀w,(do eqGuard op ty x y X Y;binOp op ty X Y).run P w=.ok V w:=by
 unfold binV at h;split at h
 ·rename_i k n N J
  have e1:X=.int k n:=W;have e2:Y=.int N J:=U;subst e1 e2;have I:=λw=>Zj1 (P:=P) op ty x y (A:=.int k n) (B:=.int N J) (by simp) (by simp) w;have fin:∀(z:Cl),(∃V,VR ρ z V/\∀w,(binOp op ty (.int k n) (.int N J)).run P w=.ok V w)->∃V,AR ρ (.c z) V/\∀w,(do eqGuard op ty x y (.int k n) (.int N J);binOp op ty (.int k n) (.int N J)).run P w=.ok V w:=by
   rintro z ⟨V,hV,hr⟩;exact⟨V,hV,λw=>by simp only[Sem.run_bind,I,Result.andThen_ok,hr]⟩
  split at h
  ·obtain⟨z,C,h⟩:=Zc h;injection h with h;subst h
   exact fin z (Zo5 C ty)
  ·obtain⟨z,C,h⟩:=Zc h;injection h with h;subst h
   exact fin z (Zo5 C ty)
  ·split at h
   ·rename_i hk
    subst hk;obtain⟨z,C,h⟩:=Zc h;injection h with h;subst h
    exact fin z (Zuz C ty)
   ·cases h
 ·rename_i l m
  have e1:X=.string (Bs l):=W;have e2:Y=.string (Bs m):=U;subst e1 e2;obtain⟨z,C,h⟩:=Zc h;injection h with h;subst h
  obtain⟨V,hV,hr⟩:=ZwO (P:=P) (ρ:=ρ) C ty;exact⟨V,hV,λw=>by simp only[Sem.run_bind,Zj1 (P:=P) op ty x y (A:=.string (Bs l)) (B:=.string (Bs m)) (by simp) (by simp) w,Result.andThen_ok,hr]⟩
 ·rename_i c d _ _
  obtain⟨q,h3,h⟩:=Zc h;have hT:=hE _ _ h3;obtain⟨b,hb,h⟩:=ZmT h;have j:VR ρ c X:=W;have D:VR ρ d Y:=U;have ab:=(Zju hT hb j D default).2;have O:=Zu3 hb;obtain⟨be,bn⟩:=ZlY (ρ:=ρ) (ty:=ty) (X:=X) (Y:=Y) (.inr ⟨c,j,O.1,O.2⟩);have I:=λw=>Zj1 (P:=P) op ty x y (A:=X) (B:=Y) (VR.one j).2.2.1 ab w;rcases h with⟨rfl,rfl⟩|⟨rfl,rfl⟩
  ·exact⟨.bool b,rfl,λw=>by simp only[Sem.run_bind,I,Result.andThen_ok,be,(Zju hT hb j D w).1,Sem.run_pure]⟩
  ·exact⟨.bool !b,rfl,λw=>by simp only[Sem.run_bind,I,Result.andThen_ok,bn,(Zju hT hb j D w).1,Sem.run_pure]⟩
 ·rename_i l m
  obtain⟨q,h3,h⟩:=Zc h;split at h
  ·rename_i Z
   simp only[Bool.and_eq_true] at Z;obtain⟨b,hb,h⟩:=ZmT h;injection hb with hb
   subst hb;obtain⟨L,rfl,hl⟩:=W;obtain⟨M,rfl,hm⟩:=U;obtain⟨he,ac⟩:=hq _ _ Z.1.1 h3 l m L M ρ Z.1.2 Z.2 hl hm;obtain⟨be,bn⟩:=ZlY (ρ:=ρ) (ty:=ty) (X:=.agg L.toArray) (Y:=.agg M.toArray) (.inl ⟨_,rfl⟩);have I:∀w,(eqGuard op ty x y (.agg L.toArray) (.agg M.toArray)).run P w=.ok () w:=λw=>by
    unfold eqGuard;rcases h with⟨rfl,rfl⟩|⟨rfl,rfl⟩<;>simp[ac]
   rcases h with⟨rfl,rfl⟩|⟨rfl,rfl⟩
   ·exact⟨.bool (decide (l=m)),rfl,λw=>by simp only[Sem.run_bind,I,Result.andThen_ok,be,he,Sem.run_pure]⟩
   ·exact⟨.bool !(decide (l=m)),rfl,λw=>by simp only[Sem.run_bind,I,Result.andThen_ok,bn,he,Sem.run_pure]⟩
  ·cases h
 ·cases h
theorem Zv8(I:∀t j,E.ty t=some j->TyOk P t j)(D:∀t j,E.eqt t=true->E.ty t=some j->Zdi P t j)(C:TR ρ t a){op:BinOp}{ty q:Nat}{x y:Operand}(h:pop E t (.binOp op ty x y q)=some v):
 ∃V,AR ρ v V/\∀w,(do eqGuard op ty x y (a.eval x) (a.eval y);binOp op ty (a.eval x) (a.eval y)).run P w=.ok V w:=by
 simp only[pop] at h;obtain⟨u,L,h⟩:=Zc h;obtain⟨N,J,h⟩:=Zc h;exact Zv9 I D (Zl C L) (Zl C J) h
end
end Ev
namespace Ev
section
variable {P:Program} {E:Env} {ρ:Rho} {t:List AV} {a:Act} {o:Oper} {v:AV}
theorem run_un{op:UnOp}{u:AV}{X:Value}(j:AR ρ u X)(h:unV op u=some v):∃V,AR ρ v V/\∀w,(Op.unary op X).run P w=.ok V w:=by
 unfold unV at h;split at h
 ·rename_i b
  have e:X=.bool b:=j;subst e;split at h
  ·injection h with h;subst h
   exact⟨_,rfl,λw=>by simp[Op.unary]⟩
  ·cases h
 ·rename_i k n
  have e:X=.int k n:=j;subst e;split at h
  ·injection h with h;subst h
   exact⟨_,rfl,λw=>by simp[Op.unary,Op.intArith,ZfA]⟩
  ·injection h with h;subst h
   exact⟨_,rfl,λw=>by simp[Op.unary,Op.intBits,ZfA]⟩
  ·cases h
 ·cases h
theorem ZjR{ρ:Rho}(q:TR ρ t a):∀{l:List Operand} {m:List (Nat×Nat)},Zdc (l.map (ev t))=some m->PW (PtR ρ) m (l.map a.eval)
 |[],m,h=>by simp only[List.map_nil,Zdc,Option.some.injEq] at h;subst h;trivial
 |x::l,m,h=>by
  simp only[List.map_cons] at h;cases j:ev t x with
  |none=>rw[j] at h;simp[Zdc] at h
  |some u=>
   rw[j] at h;cases u with
   |a _=>simp[Zdc] at h
   |t _=>simp[Zdc] at h
   |c c=>
    cases c<;>first|(simp[Zdc] at h;done)|skip
    rename_i id y
    simp only[Zdc] at h;obtain⟨r,C,h⟩:=Zc h;injection h with h;subst h
    exact⟨Zl q j,ZjR q C⟩
theorem Zwa(X:∀t W,E.ty t=some W->TyOk P t W)(N:TR ρ t a){s d:Nat}{x:Operand}(h:pop E t (.convert s d x)=some v):
 ∃V,AR ρ v V/\∀w,(convert s d (a.eval x)).run P w=.ok V w:=by
 simp only[pop,Zn0] at h;obtain⟨ts,h1,h⟩:=Zc h;obtain⟨td,Z,h⟩:=Zc h;obtain⟨O,y,q⟩:=(X _ _ h1).und;obtain⟨U,C,j⟩:=(X _ _ Z).und;split at h
 ·rename_i k Y u n L J D
  rw[L] at q;rw[J] at j;have I:a.eval x=.int u n:=Zl N D;cases O<;>first|exact q.elim|skip
  cases U<;>first|exact j.elim|skip
  have:Y=_:=j;subst this;injection h with h;subst h
  exact⟨_,rfl,λw=>by simp[convert,run_und y,run_und C,I,Conv.intToInt,ZfA]⟩
 ·rename_i l L J D
  rw[L] at q;rw[J] at j;have I:a.eval x=.string (Bs l):=Zl N D;cases O<;>first|exact q.elim|skip
  cases U<;>first|exact j.elim|skip
  injection h with h;subst h
  exact⟨_,rfl,λw=>by simp[convert,run_und y,run_und C,I]⟩
 ·rename_i k u n L J D
  rw[L] at q;rw[J] at j;have I:a.eval x=.int u n:=Zl N D;cases O<;>first|exact q.elim|skip
  cases U<;>first|exact j.elim|skip
  injection h with h;subst h
  exact⟨_,rfl,λw=>by simp[convert,run_und y,run_und C,I,Conv.intToString,<-Bs_of]⟩
 ·cases h
theorem Zj0(b:Builtin)(c:Call)(y:c.callee=.builtin b)(u:o.op=.call c){s:Sem Value}(hs:∀j,builtin b c.argTypes o.type j (c.args.map a.eval)=(do let v<-s;pure (.value v))){V:Value}(C:AR ρ v V)(q:∀w,s.run P w=.ok V w):Yld P ρ a o v:=by
 refine Zdh (s:=s) ?_ C q;unfold execOp;simp only[u,resolve,y];exact hs _
theorem Zoo(W:∀t ti,E.ty t=some ti->TyOk P t ti)(hq:∀t ti,E.eqt t=true->E.ty t=some ti->Zdi P t ti)(q:TR ρ t a)(h:pop E t o.op=some v):Yld P ρ a o v:=by
 cases j:o.op with
 |move x=>
  rw[j] at h;exact⟨_,Zl q h,λw=>by simp[execOp,j]⟩
 |assign x=>
  rw[j] at h;exact⟨_,Zl q h,λw=>by simp[execOp,j]⟩
 |pick c x y=>
  rw[j] at h;simp only[pop,pPick] at h;obtain⟨b,N,h⟩:=Zc h;have hb:=ZiW q N;cases b
  ·exact⟨a.eval y,Zl q h,λw=>by simp[execOp,j,hb,asBool]⟩
  ·exact⟨a.eval x,Zl q h,λw=>by simp[execOp,j,hb,asBool]⟩
 |build ty ps=>
  rw[j] at h;obtain⟨V,I,C⟩:=run_build W q h;exact Zdh (by unfold execOp;simp only[j]) I C
 |nilCheck x=>
  rw[j] at h;simp only[pop,Zn7] at h;split at h
  ·rename_i i O J
   injection h with h;subst h
   have L:=Zl q J;obtain⟨b,c,N,h2⟩:=L;exact⟨_,⟨b,c,N,rfl⟩,λw=>by simp[execOp,j,h2]⟩
  ·rename_i i O J
   injection h with h;subst h
   have L:a.eval x=.pointer (some ⟨i,O,none⟩):=Zl q J;exact⟨_,rfl,λw=>by simp[execOp,j,L]⟩
  ·rename_i f fs cs J
   injection h with h;subst h
   obtain⟨m,n,N,h2,h3⟩:=Zl q J;exact⟨_,⟨m,n,rfl,h2,h3⟩,λw=>by simp[execOp,j,N]⟩
  ·cases h
 |extract x i=>
  rw[j] at h;simp only[pop,Zn1] at h;split at h
  ·rename_i l J
   obtain⟨u,N,h⟩:=Zc h;injection h with h;subst h
   obtain⟨m,L,hl⟩:=Zl q J;rw[ZbF] at N;obtain⟨y,hy,C⟩:=hl.get N;exact⟨y,C.av,λw=>by simp[execOp,j,L,Instr.extract,hy]⟩
  ·cases h
 |field ty x f=>
  rw[j] at h;obtain⟨V,I,C⟩:=Zwb W q h;exact Zdh (by unfold execOp;simp only[j]) I C
 |fieldAddr ty x f=>
  rw[j] at h;obtain⟨V,I,C⟩:=Zwc W q h;exact Zdh (by unfold execOp;simp only[j]) I C
 |index ty x i=>
  rw[j] at h;obtain⟨V,I,C⟩:=Zwd W q h;exact Zdh (by unfold execOp;simp only[j]) I C
 |indexAddr ty x i=>
  rw[j] at h;obtain⟨V,I,C⟩:=Zwe W q h;exact Zdh (by unfold execOp;simp only[j]) I C
 |slice ty x lo hi mx=>
  rw[j] at h;obtain⟨V,I,C⟩:=Zwg W q h;exact Zdh (by unfold execOp;simp only[j]) I C
 |binOp op ty x y aj=>
  rw[j] at h;obtain⟨V,I,C⟩:=Zv8 W hq q h;exact Zdh (by unfold execOp;simp only[j]) I C
 |unOp op ty x=>
  rw[j] at h;simp only[pop] at h;obtain⟨u,N,h⟩:=Zc h;obtain⟨V,I,C⟩:=run_un (P:=P) (Zl q N) h;exact Zdh (by unfold execOp;simp only[j]) I C
 |convert s d x=>
  rw[j] at h;obtain⟨V,I,C⟩:=Zwa W q h;exact Zdh (by unfold execOp;simp only[j]) I C
 |makeFunc fn fs cs=>
  rw[j] at h;cases fn with
  |func f=>
   simp only[pop,Zn6] at h;obtain⟨l,N,h⟩:=Zc h;obtain⟨m,h2,h⟩:=Zc h;injection h with h;subst h
   exact⟨.func (.func f) (fs.map a.eval) (cs.map a.eval),⟨fs.toList.map a.eval,cs.toList.map a.eval,by congr 1<;>(apply Array.ext';simp),ZjR q N,ZjR q h2⟩,λw=>by simp[execOp,j,Instr.makeFunc]⟩
  |_=>simp[pop] at h
 |call c=>
  rw[j] at h;simp only[pop,pCall] at h;split at h
  ·rename_i hc
   obtain⟨ty,N,h⟩:=Zc h;obtain⟨ti,h2,h⟩:=Zc h;obtain⟨x,h3,h⟩:=Zc h;obtain⟨d,U,D⟩:=(W _ _ h2).und;rw[ZbF] at N h3;have Y:c.argTypes[0]?=some ty:=by simpa using N
   have X:c.args[0]?=some x:=by simpa using h3
   have key:∃V,AR ρ v V/\∀w,(Builtin.len_ c.argTypes o.type (c.args.map a.eval)).run P w=.ok V w:=by
    split at h
    ·rename_i l Z J
     rw[Z] at D;cases d<;>first|exact D.elim|skip
     have L:a.eval x=.string (Bs l):=Zl q J;injection h with h;subst h
     exact⟨_,rfl,λw=>by simp[Builtin.len_,Y,X,run_und U,L,goInt,Zb6]⟩
    ·rename_i n e u Z J
     rw[Z] at D;cases d<;>first|exact D.elim|skip
     obtain⟨rfl,rfl⟩:=D;injection h with h;subst h
     exact⟨_,rfl,λw=>by simp[Builtin.len_,Y,X,run_und U,goInt]⟩
    ·rename_i e Z J
     rw[Z] at D;cases d<;>first|exact D.elim|skip
     have L:a.eval x=.slice none 0 0:=Zl q J;injection h with h;subst h
     exact⟨_,rfl,λw=>by simp[Builtin.len_,Y,X,run_und U,L,goInt]⟩
    ·rename_i e id O len cut Z J
     rw[Z] at D;cases d<;>first|exact D.elim|skip
     obtain⟨b,c',o',hb,an,am,L⟩:AR ρ (.c (.sl id O len cut)) (a.eval x):=Zl q J;injection h with h;subst h
     exact⟨_,rfl,λw=>by simp[Builtin.len_,Y,X,run_und U,L,goInt]⟩
    ·cases h
   obtain⟨V,I,C⟩:=key;exact Zj0 .len c hc j (λ_=>rfl) I C
  ·rename_i hc
   split at h
   ·rename_i x y hl
    split at h
    ·rename_i k m k' n J hy
     injection h with h;subst h
     have L:a.eval x=.int k m:=Zl q J;have hY:a.eval y=.int k' n:=Zl q hy;refine Zj0 .min c hc j (s:=Builtin.min_ c.argTypes o.type (c.args.map a.eval)) (λ_=>rfl) rfl (λw=>?_);simp[Builtin.min_,hl,L,hY,Builtin.min2]
    ·cases h
   ·cases h
  ·rename_i hc
   split at h
   ·rename_i x y hl
    split at h
    ·rename_i k m k' n J hy
     injection h with h;subst h
     have L:a.eval x=.int k m:=Zl q J;have hY:a.eval y=.int k' n:=Zl q hy;refine Zj0 .max c hc j (s:=Builtin.max_ c.argTypes o.type (c.args.map a.eval)) (λ_=>rfl) rfl (λw=>?_);simp[Builtin.max_,hl,L,hY,Builtin.max2]
    ·cases h
   ·cases h
  ·cases h
 |_=>rw[j] at h;simp[pop] at h
end
end Ev
open Go Go.RowKit
namespace Ev
def MR(ρ:Rho)(e:A0×A0)(m:MapEntry):Prop:=A0R ρ e.1 m.key/\A0R ρ e.2 m.val
def ObR(ρ:Rho)(w:World)(b c:Nat):Ob->Prop
 | .cl l ty sz row=>∃(m rest:List Value) (fr:Nat×Nat),w.heap[b]?=some (.cells (m++rest).toArray ty fr)/\LR ρ l m/\(row=0->rest=[])/\(m++rest).length=c*sz/\(∀j,j<(m++rest).length->¬(fr.1<=j/\j<fr.2))/\(row<=1->fr=(0,0))/\(row=1->c<=maxLen)
 | .it s q=>w.heap[b]?=some (.stringIter (Bs s) q)
 | .mp u=>∃(L:List MapEntry) (y:Nat),w.heap[b]?=some (.map L.toArray y)/\PW (MR ρ) u L
def MR.mono{ρ σ:Rho}(h:ρ.le σ)(e:A0×A0)(m:MapEntry)(j:MR ρ e m):MR σ e m:=⟨A0R.mono h _ _ j.1,A0R.mono h _ _ j.2⟩
def ObR.mono{ρ σ:Rho}{w w':World}{b c:Nat}(h:ρ.le σ)(q:w'.heap[b]?=w.heap[b]?):∀{o:Ob},ObR ρ w b c o->ObR σ w' b c o
 | .cl _ _ _ _,⟨m,rest,fr,j,u,y⟩=>⟨m,rest,fr,q.trans j,u.mono (VR.mono h),y⟩
 | .it _ _,j=>q.trans j
 | .mp _,⟨L,C,j,u⟩=>⟨L,C,q.trans j,u.mono (MR.mono h)⟩
structure IV (n0:Nat)(w0:World)(ρ:Rho)(nx:Nat)(h:Hp)(w:World):Prop where
 fresh:∀i,nx<=i->ρ i=none
 low:Below n0 w0 w
 hn:n0<=w0.heap.size
 rng:∀i b c,ρ i=some (b,c)->n0<=b/\b<w.heap.size
 ob:∀x∈h,∃b c,ρ x.1=some (b,c)/\ObR ρ w b c x.2
 inj:∀x∈h,∀y∈h,x.1≠y.1->∀b c b' c',ρ x.1=some (b,c)->ρ y.1=some (b',c')->b≠b'
def Rho.put(ρ:Rho)(i:Nat)(x:Nat×Nat):Rho:=λj=>if j=i then some x else ρ j
def Rho.put_le{ρ:Rho}{i:Nat}{x:Nat×Nat}(h:ρ i=none):ρ.le (ρ.put i x):=by
 intro j y q;unfold Rho.put;split
 ·rename_i e;rw[e,h] at q;cases q
 ·exact q
def Rho.put_self{ρ:Rho}{i:Nat}{x:Nat×Nat}:ρ.put i x i=some x:=by simp[Rho.put]
def Rho.put_ne{ρ:Rho}{i j:Nat}{x:Nat×Nat}(h:j≠i):ρ.put i x j=ρ j:=by simp[Rho.put,h]
section
variable {P:Program} {E:Env} {n0:Nat} {w0 w:World} {ρ:Rho} {nx fr:Nat} {h:Hp} {t:List AV} {a:Act} {o:Oper} {v:AV}
theorem IV.size(j:IV n0 w0 ρ nx h w):n0<=w.heap.size:=Nat.le_trans j.hn j.low.size
theorem IV.sub{h':Hp}(j:IV n0 w0 ρ nx h w)(hs:∀x∈h',x∈h):IV n0 w0 ρ nx h' w:=
 ⟨j.fresh,j.low,j.hn,j.rng,λx q=>j.ob x (hs x q),λx q y u=>j.inj x (hs x q) y (hs y u)⟩
theorem IV.drew(j:IV n0 w0 ρ nx h w):IV n0 w0 ρ nx h w.drew:=
 ⟨j.fresh,j.low.drew,j.hn,j.rng,λx q=>by
  obtain⟨b,c,y,u⟩:=j.ob x q;exact⟨b,c,y,u.mono ρ.le_refl rfl⟩,j.inj⟩
theorem IV.next(j:IV n0 w0 ρ nx h w)(k:Nat):IV n0 w0 ρ (nx+k) h w:=
 ⟨λi q=>j.fresh i (by omega),j.low,j.hn,j.rng,j.ob,j.inj⟩
theorem Zg1(w:World)(ob:Obj):(w.alloc ob).heap[w.heap.size]?=some ob:=by
 show(w.heap.push ob)[w.heap.size]?=some ob
 simp
theorem alloc_old(w:World)(ob:Obj){k:Nat}(j:k<w.heap.size):(w.alloc ob).heap[k]?=w.heap[k]?:=Below.heap_alloc w ob k j
theorem IV.new(q:IV n0 w0 ρ nx h w)(X:fr<nx)(hn:ρ fr=none)(ob:Obj)(c:Nat)(x:Ob)(W:ObR (ρ.put fr (w.heap.size,c)) (w.alloc ob) w.heap.size c x):
 IV n0 w0 (ρ.put fr (w.heap.size,c)) nx ((fr,x)::h) (w.alloc ob):=by
 have J:=Rho.put_le (x:=(w.heap.size,c)) hn;refine⟨λi I=>by rw[Rho.put_ne (by omega)];exact q.fresh i I,q.low.alloc q.size _,q.hn,?_,?_,?_⟩
 ·intro i b V I;by_cases e:i=fr
  ·subst e;rw[Rho.put_self] at I;injection I with I
   injection I with D O
   subst D;exact⟨q.size,by simp⟩
  ·rw[Rho.put_ne e] at I;have:=q.rng i b V I;simp;omega
 ·intro y u;rcases List.mem_cons.1 u with rfl|u
  ·exact⟨_,_,Rho.put_self,W⟩
  ·obtain⟨b,V,D,O⟩:=q.ob y u;exact⟨b,V,J _ _ D,O.mono J (alloc_old w ob (q.rng _ _ _ D).2)⟩
 ·intro y u z L N b U b' c2 hb j;have C:∀y∈h,∀b U,ρ.put fr (w.heap.size,c) y.1=some (b,U)->ρ y.1=some (b,U):=by
   intro y u b U hb;obtain⟨Z,Y,D,_⟩:=q.ob y u;rw[J _ _ D] at hb;rw[D];exact hb
  rcases List.mem_cons.1 u with rfl|u<;>rcases List.mem_cons.1 L with rfl|L
  ·exact absurd rfl N
  ·have e:=C z L _ _ j;rw[Rho.put_self] at hb;injection hb with hb
   injection hb with D O
   have:=(q.rng _ _ _ e).2;omega
  ·have e:=C y u _ _ hb;rw[Rho.put_self] at j;injection j with j
   injection j with D O
   have:=(q.rng _ _ _ e).2;omega
  ·exact q.inj y u z L N _ _ _ _ (C y u _ _ hb) (C z L _ _ j)
def ZaO(P:Program)(n0:Nat)(w0:World)(ρ:Rho)(nx fr:Nat)(a:Act)(o:Oper)(v:AV)(h':Hp)(w:World):Prop:=
 ∃ρ' w' V,AR ρ' v V/\((execOp a.eval o).run P w=.ok (.value V) w'\/(V=undef/\(execOp a.eval o).run P w=.ok .skip w'))/\IV n0 w0 ρ' nx h' w'/\ρ.le ρ'/\∀i,i≠fr->ρ' i=ρ i
theorem Zdr{s:Sem Value}{ρ':Rho}{w':World}{V:Value}{h':Hp}(q:execOp a.eval o=(do let v<-s;pure (.value v)))(y:AR ρ' v V)(u:s.run P w=.ok V w')(C:IV n0 w0 ρ' nx h' w')(j:ρ.le ρ')(hs:∀i,i≠fr->ρ' i=ρ i):ZaO P n0 w0 ρ nx fr a o v h' w:=
 ⟨ρ',w',V,y,.inl (by rw[q];simp[u]),C,j,hs⟩
theorem ZeF(e:TypeId)(cs:Array Value)(w:World):(newRow e cs).run P w=.ok ⟨w.heap.size,0,none⟩ (w.alloc (.cells cs e)):=rfl
theorem Zhz(σ:Rho)(w:World)(l:List Cl)(m rest:List Value)(e sz c row:Nat)(y:LR σ l m)(q:row=0->rest=[])(C:(m++rest).length=c*sz)(u:row=1->c<=maxLen):
 ObR σ (w.alloc (.cells (m++rest).toArray e)) w.heap.size c (.cl l e sz row):=
 ⟨m,rest,(0,0),Zg1 _ _,y,q,C,λj _ D=>by omega,λ_=>rfl,u⟩
theorem Ztw(N:∀t u,E.ty t=some u->TyOk P t u)(L:IV n0 w0 ρ nx h w)(J:fr<nx)(hn:ρ fr=none){e:Nat}(D:o.op=.alloc e){h':Hp}(j:eff E fr t h o.op=some (v,h')):
 ZaO P n0 w0 ρ nx fr a o v h' w:=by
 rw[D] at j;simp only[eff,Zmu] at j;obtain⟨u,O,j⟩:=Zc j;simp only[Option.some.injEq,Prod.mk.injEq] at j;obtain⟨rfl,rfl⟩:=j;obtain⟨z,C,y,_⟩:=(N _ _ O).zero;have q:=Rho.put_le (x:=(w.heap.size,z.cells.toList.length)) hn;refine Zdr (s:=Instr.alloc e true (.tuple #[])) (V:=.pointer (some ⟨w.heap.size,0,none⟩)) (by unfold execOp;simp only[D]) ⟨_,_,Rho.put_self,rfl⟩ ?_
  (L.new J hn (.cells (z.cells.toList++[]).toArray e) z.cells.toList.length _ (Zhz _ _ _ _ [] _ 1 _ _ ((y ρ).mono (VR.mono q)) (λ_=>rfl) (by simp) (by simp))) q (λi I=>Rho.put_ne I)
 simp[Instr.alloc,C,newVar,ZeF]
theorem Ztz(C:TR ρ t a)(L:IV n0 w0 ρ nx h w)(I:fr<nx)(hn:ρ fr=none){e:Nat}{x:Operand}(y:o.op=.box e x){h':Hp}(j:eff E fr t h o.op=some (v,h')):
 ZaO P n0 w0 ρ nx fr a o v h' w:=by
 rw[y] at j;simp only[eff,eBox] at j;obtain⟨u,N,j⟩:=Zc j;split at j
 ·cases j
 rename_i hT
 simp only[Option.some.injEq,Prod.mk.injEq] at j;obtain⟨rfl,rfl⟩:=j;have J:=(Zl C N).cells (by simpa using hT);have q:=Rho.put_le (x:=(w.heap.size,(a.eval x).cells.toList.length)) hn;refine Zdr (s:=Instr.box e (a.eval x)) (V:=.pointer (some ⟨w.heap.size,0,none⟩)) (by unfold execOp;simp only[y]) ⟨_,_,Rho.put_self,rfl⟩ ?_
  (L.new I hn (.cells ((a.eval x).cells.toList++[]).toArray e) (a.eval x).cells.toList.length _ (Zhz _ _ _ _ [] _ 1 _ _ (J.mono (VR.mono q)) (λ_=>rfl) (by simp) (by simp))) q (λi D=>Rho.put_ne D)
 simp[Instr.box,newVar,ZeF]
theorem Zh4{α:Type}(z:List α):∀n,(zeros z n).length=n*z.length
 |0=>by simp[zeros]
 |n+1=>by rw[zeros,List.length_append,Zh4 z n,Nat.succ_mul];omega
theorem ZpJ{α:Type}(z:List α)(n:Nat):∀m,zeros z (m+n)=zeros z m++zeros z n
 |0=>by simp[zeros]
 |m+1=>by rw[Nat.succ_add,zeros,ZpJ z n m,zeros,List.append_assoc]
theorem ZpK{α:Type}(z:List α):∀(n i:Nat),i<n*z.length->(zeros z n)[i]?=z[i % z.length]?
 |0,i,h=>by omega
 |n+1,i,h=>by
  rw[zeros];by_cases j:i<z.length
  ·rw[List.getElem?_append_left j,Nat.mod_eq_of_lt j]
  ·rw[List.getElem?_append_right (by omega),ZpK z n _ (by rw[Nat.succ_mul] at h;omega)];congr 1
   conv=>rhs;rw[show i=(i - z.length)+z.length from by omega,Nat.add_mod_right]
theorem LR.zeros{l:List Cl}{m:List Value}(j:LR ρ l m):∀n,LR ρ (zeros l n) (zeros m n)
 |0=>trivial
 |n+1=>j.app (LR.zeros j n)
theorem ZoG(z:Array Value)(n:Nat):((Array.range (n*z.size)).map (λi=>z[i % z.size]!)).toList=zeros z.toList n:=by
 apply List.ext_getElem?
 intro i;by_cases j:i<n*z.size
 ·rw[ZpK z.toList n i (by rw[Array.length_toList];exact j)];have q:0<z.size:=by
   rcases Nat.eq_zero_or_pos z.size with e|e
   ·rw[e] at j;omega
   ·exact e
  have u:=Nat.mod_lt i q;simp[j,u]
 ·rw[List.getElem?_eq_none (by simpa using j),List.getElem?_eq_none (by rw[Zh4,Array.length_toList];omega)]
end
end Ev
namespace Ev
def GOk(E:Env)(n0:Nat)(w0:World):Prop:=∀g l,E.gl g=some l->g<n0/\∃m:List Value,(∀j u,m[j]?=some u->w0.cell? ⟨g,j,none⟩=some u)/\∀ρ,LR ρ l m
section
variable {P:Program} {E:Env} {n0:Nat} {w0 w:World} {ρ:Rho} {nx fr:Nat} {h:Hp} {t:List AV} {a:Act} {o:Oper} {v:AV}
theorem ZuR(x:Nat×Ob)(h:Hp)(n:Nat):look (x::h) n=if x.1=n then some x.2 else look h n:=by
 show cond (Nat.beq x.1 n) (some x.2) (look h n)=_
 by_cases e:x.1=n
 ·rw[if_pos e,e,Nat.beq_refl];rfl
 ·have j:Nat.beq x.1 n=false:=ZiE e;rw[if_neg e,j];rfl
theorem Zbq:∀{h:Hp} {i:Nat} {x:Ob},look h i=some x->(i,x)∈h
 |[],_,_,j=>by cases j
 |y::h,i,x,j=>by
  rw[ZuR] at j;split at j
  ·rename_i e
   injection j with j
   subst e j;exact List.mem_cons_self ..
  ·exact List.mem_cons_of_mem _ (Zbq j)
theorem ZgC{i:Nat}{x:Ob}:∀{h:Hp} {y:Nat×Ob},y∈upd i x h->y=(i,x)\/(y∈h/\y.1≠i)
 |[],y,j=>by simp[upd] at j
 |z::h,y,j=>by
  simp only[upd] at j;split at j
  ·rcases List.mem_cons.1 j with rfl|j
   ·exact .inl rfl
   ·rcases ZgC j with e|⟨C,u⟩
    ·exact .inl e
    ·exact .inr ⟨List.mem_cons_of_mem _ C,u⟩
  ·rename_i q
   rcases List.mem_cons.1 j with rfl|j
   ·exact .inr ⟨List.mem_cons_self ..,q⟩
   ·rcases ZgC j with e|⟨C,u⟩
    ·exact .inl e
    ·exact .inr ⟨List.mem_cons_of_mem _ C,u⟩
theorem Ze5{i:Nat}:∀{h:Hp} {y:Nat×Ob},y∈del i h->y∈h/\y.1≠i
 |[],y,j=>by simp[del] at j
 |z::h,y,j=>by
  simp only[del] at j;split at j
  ·obtain⟨C,u⟩:=Ze5 j;exact⟨List.mem_cons_of_mem _ C,u⟩
  ·rename_i q
   rcases List.mem_cons.1 j with rfl|j
   ·exact⟨List.mem_cons_self ..,q⟩
   ·obtain⟨C,u⟩:=Ze5 j;exact⟨List.mem_cons_of_mem _ C,u⟩
theorem Zeo(hG:GOk E n0 w0)(Z:IV n0 w0 ρ nx h w){x:AV}{X:Value}{n:Nat}{l:List Cl}(Y:AR ρ x X)(y:Zcw E h x n=some l):
 ∃(b q:Nat) (m:List Value),X=.pointer (some ⟨b,q,none⟩)/\m.length=n/\LR ρ l m/\∀j u,m[j]?=some u->w.cell? ⟨b,q+j,none⟩=some u:=by
 have fin:∀(b q:Nat) (L:List Cl) (M:List Value) (rest:List Value) (ty:TypeId) (N:Nat×Nat),w.heap[b]?=some (.cells (M++rest).toArray ty N)->LR ρ L M->((L.drop q).take n).length=n->
  ∃m:List Value,m.length=n/\LR ρ ((L.drop q).take n) m/\∀j u,m[j]?=some u->w.cell? ⟨b,q+j,none⟩=some u:=by
  intro b q L M rest ty N hb hl hn;have D:=(hl.drop q).take n;refine⟨(M.drop q).take n,by rw[<-D.len,hn],D,λj u C=>?_⟩;rw[cell_of_row w b _ _ ty N hb];rw[List.getElem?_take] at C;split at C
  ·rw[List.getElem?_drop] at C;have O:=(List.getElem?_eq_some_iff.1 C).1;simp only[List.getElem?_toArray];rw[List.getElem?_append_left O];exact C
  ·cases C
 unfold Zcw at y;split at y
 ·rename_i i q
  split at y
  ·rename_i L ty sz row U
   simp only at y;split at y
   ·rename_i hn
    injection y with y;subst y
    obtain⟨b,c,J,m,rest,N,W,V,h4⟩:=Z.ob _ (Zbq U);obtain⟨b',c',I,rfl⟩:∃b c,ρ i=some (b,c)/\X=.pointer (some ⟨b,q,none⟩):=Y;simp only at J;rw[J] at I;injection I with I
    injection I with I h6
    subst I;obtain⟨m',q1,q2,q3⟩:=fin b q L m rest _ _ W V hn;exact⟨b,q,m',rfl,q1,q2,q3⟩
   ·cases y
  ·cases y
 ·rename_i g q
  obtain⟨L,J,y⟩:=Zc y;simp only at y;split at y
  ·rename_i hn
   injection y with y;subst y
   have hX:X=.pointer (some ⟨g,q,none⟩):=Y;subst hX;obtain⟨hg,m,W,V⟩:=hG _ _ J;have D:=((V ρ).drop q).take n;refine⟨g,q,(m.drop q).take n,rfl,by rw[<-D.len,hn],D,λj u C=>?_⟩;rw[Z.low.cell (p:=⟨g,q+j,none⟩) hg];refine W (q+j) u ?_;rw[List.getElem?_take] at C;split at C
   ·rw[List.getElem?_drop] at C;exact C
   ·cases C
  ·cases y
 ·cases y
theorem ZoN(b q:Nat)(m:List Value)(w:World)(h:∀j u,m[j]?=some u->w.cell? ⟨b,q+j,none⟩=some u):(loadCells ⟨b,q,none⟩ m.length).run P w=.ok m.toArray w:=
 run_loadCells_list w ⟨b,q,none⟩ m (λj u y=>by rw[add_eq];exact h j u y)
theorem ZhL{ty:Nat}{C:TI}(hT:TyOk P ty C){l:List Cl}{m:List Value}(O:mk C l=some v)(U:LR ρ l m)(hn:m.length=C.size)(b q:Nat):
 ∃V,AR ρ v V/\∀w:World,(∀j u,m[j]?=some u->w.cell? ⟨b,q+j,none⟩=some u)->(Instr.loadAt ty (.pointer (some ⟨b,q,none⟩))).run P w=.ok V w:=by
 obtain⟨N,L⟩:=Zjs O U;cases D:C.k.agg with
 |true=>
  refine⟨_,N D,λw I=>?_⟩;have y:=ZoN (P:=P) b q m w I;rw[hn] at y;simp[Instr.loadAt,Instr.sureAddr,loadVar,hT.isAgg,D,hT.sizeOf,y]
 |false=>
  obtain⟨x,X,W⟩:=L D;refine⟨x,W,λw I=>?_⟩;have J:=I 0 x (by rw[X];rfl);rw[Nat.add_zero] at J;simp[Instr.loadAt,Instr.sureAddr,loadVar,hT.isAgg,D,J]
theorem ZuP(U:∀t q,E.ty t=some q->TyOk P t q)(hG:GOk E n0 w0)(O:IV n0 w0 ρ nx h w)(C:TR ρ t a){ty:Nat}{x:Operand}(j:Zjo E t h ty x=some v):
 ∃V,AR ρ v V/\(Instr.loadAt ty (a.eval x)).run P w=.ok V w:=by
 unfold Zjo at j;obtain⟨q,Y,j⟩:=Zc j;obtain⟨u,X,j⟩:=Zc j;obtain⟨l,W,j⟩:=Zc j;obtain⟨b,y,m,L,hn,I,J⟩:=Zeo hG O (Zl C X) W;obtain⟨V,N,D⟩:=ZhL (U _ _ Y) j I hn b y;exact⟨V,N,by rw[L];exact D w J⟩
theorem ZcL{h':Hp}{V:Value}{s:Sem Value}(j:execOp a.eval o=(do let v<-s;pure (.value v)))(u:AR ρ v V)(q:s.run P w=.ok V w)(y:IV n0 w0 ρ nx h' w):ZaO P n0 w0 ρ nx fr a o v h' w:=
 Zdr j u q y ρ.le_refl (λ_ _=>rfl)
theorem ZtC(L:∀t q,E.ty t=some q->TyOk P t q)(hG:GOk E n0 w0)(D:TR ρ t a)(C:IV n0 w0 ρ nx h w){ty:Nat}{x:Operand}(y:o.op=.load ty x){h':Hp}(j:eff E fr t h o.op=some (v,h')):
 ZaO P n0 w0 ρ nx fr a o v h' w:=by
 rw[y] at j;simp only[eff] at j;obtain⟨u,N,j⟩:=Zc j;simp only[Option.some.injEq,Prod.mk.injEq] at j;obtain⟨rfl,rfl⟩:=j;obtain⟨V,J,I⟩:=ZuP L hG C D N;exact ZcL (s:=Instr.loadAt ty (a.eval x)) (by unfold execOp;simp only[y]) J I C
theorem ZoP(g o:Nat)(t:TypeId)(u:Nat×Nat):∀(C:List Value) (i:Nat) (cur:Array Value) (w:World),w.heap[g]?=some (.cells cur t u)->(∀j,j<cur.size->¬(u.1<=j/\j<u.2))->o+i+C.length<=cur.size->(∀v∈C,v.oneCell'=true)->
 (storeCells ⟨g,o,none⟩ C i).run P w=.ok () (w.setRow g (cur.toList.take (o+i)++C++cur.toList.drop (o+i+C.length)).toArray)
 |[],i,cur,w,y,_,_,_=>by
  simp only[storeCells,List.append_nil,List.length_nil,Nat.add_zero,List.take_append_drop,Array.toArray_toList];rw[setRow_self w g cur t u y];rfl
 |v::rest,i,cur,w,y,D,N,U=>by
  have O:o+i<cur.size:=by simp at N;omega
  have J:(⟨g,o,none⟩:Addr).add i=⟨g,o+i,none⟩:=add_eq g o i;have q:w.cell? ⟨g,o+i,none⟩=some cur[o+i]:=by simp[World.cell?,y,O]
  have I:w.frozen? ⟨g,o+i,none⟩=false:=by
   have:=D (o+i) O;obtain⟨Y,X⟩:=u;simp only[World.frozen?,y,Bool.and_eq_false_iff,decide_eq_false_iff_not];simp only at this;omega
  have L:(store ((⟨g,o,none⟩:Addr).add i) v).run P w=.ok () (w.setRow g (cur.setIfInBounds (o+i) v)):=by
   rw[J,run_store P w _ v _ (U v (by simp)),q];simp[I,setCell_eq_setRow w g (o+i) cur t u v y]
  have V:=ZoP g o t u rest (i+1) (cur.setIfInBounds (o+i) v) (w.setRow g (cur.setIfInBounds (o+i) v)) (setRow_heap w g cur _ t _ y) (by simpa using D) (by simp at N⊢;omega) (λx W=>U x (by simp[W]));simp only[storeCells,Sem.run_bind,L,Result.andThen_ok,V,setRow_setRow];congr 3
  have e:=list_seg_step cur.toList (o+i) v rest (by simp at N⊢;omega);simpa[Array.toList_setIfInBounds,Nat.add_assoc] using e
theorem Zwu(w:World)(g k:Nat)(cs:Array Value)(h:k≠g):(w.setRow g cs).heap[k]?=w.heap[k]?:=by
 unfold World.setRow;rw[Array.getElem?_modify,if_neg (λe=>h e.symm)]
theorem Zwv(w:World)(g:Nat)(cs:Array Value):(w.setRow g cs).heap.size=w.heap.size:=by
 unfold World.setRow;simp
theorem IV.turn{w':World}{i b c:Nat}{x:Ob}(q:IV n0 w0 ρ nx h w)(X:ρ i=some (b,c))(hm:∃y,(i,y)∈h)(W:w'.os=w.os)(V:w'.tape=w.tape)(J:w'.output=w.output)(I:w'.heap.size=w.heap.size)
 (C:∀k,k≠b->w'.heap[k]?=w.heap[k]?) (hx:ObR ρ w' b c x):IV n0 w0 ρ nx (upd i x h) w':=by
 have hb:=q.rng _ _ _ X;obtain⟨y0,D⟩:=hm;refine⟨q.fresh,⟨W.trans q.low.os,V.trans q.low.tape,J.trans q.low.output,by rw[I];exact q.low.size,λk hk=>(C k (by omega)).trans (q.low.block k hk)⟩,q.hn,λj O c' hj=>by rw[I];exact q.rng j O c' hj,?_,?_⟩
 ·intro y U;rcases ZgC U with rfl|⟨N,h2⟩
  ·exact⟨b,c,X,hx⟩
  ·obtain⟨O,c',L,h4⟩:=q.ob y N;exact⟨O,c',L,h4.mono ρ.le_refl (C O (q.inj y N _ D h2 _ _ _ _ L X))⟩
 ·intro y U z hz u b1 c1 b2 c2 Z Y;rcases ZgC U with rfl|⟨N,h2⟩<;>rcases ZgC hz with rfl|⟨L,h4⟩
  ·exact absurd rfl u
  ·exact q.inj _ D z L u _ _ _ _ Z Y
  ·exact q.inj y N _ D u _ _ _ _ Z Y
  ·exact q.inj y N z L u _ _ _ _ Z Y
theorem ZtK(hE:∀t L,E.ty t=some L->TyOk P t L)(ht:TR ρ t a)(hI:IV n0 w0 ρ nx h w){ty:Nat}{x y:Operand}(ho:o.op=.store ty x y){h':Hp}(q:eff E fr t h o.op=some (v,h')):
 ZaO P n0 w0 ρ nx fr a o v h' w:=by
 rw[ho] at q;simp only[eff,ZmD] at q;obtain⟨L,h1,q⟩:=Zc q;split at q
 ·rename_i i j u hx hy
  split at q
  ·rename_i hc
   split at q
   ·rename_i l e z r J
    obtain⟨l',h2,q⟩:=Zc q;simp only[Zfc,Option.some.injEq,Prod.mk.injEq] at q;obtain⟨rfl,rfl⟩:=q;obtain⟨b,c,U,m,rest,X,Z,q3,q4,q5,Y,q9,O⟩:=hI.ob _ (Zbq J);obtain⟨b',c',I,hX⟩:∃b c,ρ i=some (b,c)/\a.eval x=.pointer (some ⟨b,j,none⟩):=Zl ht hx;simp only at U;rw[U] at I;injection I with I
    injection I with I q8
    subst I;have V:=(Zl ht hy).cells hc.1;obtain⟨s1,N⟩:=Zpc h2 q3 V;have D:(a.eval y).cells.size=L.size:=by rw[<-hc.2,V.len,Array.length_toList]
    have C:=ZoP (P:=P) b j e X (a.eval y).cells.toList 0 (m++rest).toArray w Z (by simpa using Y) (by simp at N⊢;omega) (LR.one' V);generalize W:(List.toArray (_:List Value))=CS at C;refine⟨ρ,w.setRow b CS,undef,Zfx ρ,.inr ⟨rfl,?_⟩,hI.turn (x:=.cl l' e z r) U ⟨_,Zbq J⟩ rfl rfl rfl (Zwv _ _ _) (λk hk=>Zwu _ _ _ _ hk) ⟨m.take j++((a.eval y).cells.toList++m.drop (j+(a.eval y).cells.toList.length)),rest,X,?_,s1,q4,?_,?_,q9,O⟩,ρ.le_refl,λ_ _=>rfl⟩
    ·unfold execOp;simp only[ho,hX];simp only[Instr.storeAt,Instr.sureAddr,storeVar,Sem.run_bind,Sem.run_pure,Result.andThen_ok,(hE _ _ h1).sizeOf,D,ne_eq,not_true,if_false,C]
    ·rw[setRow_heap w b _ _ e X Z,<-W];congr 2
     simp only[Nat.add_zero,List.append_assoc];congr 1
     have t1:(m++rest).take j=m.take j:=by rw[List.take_append_of_le_length (by omega)]
     have t2:(m++rest).drop (j+(a.eval y).cells.toList.length)=m.drop (j+(a.eval y).cells.toList.length)++rest:=by rw[List.drop_append_of_le_length (by omega)]
     simp only[t1,t2]
    ·have:(m.take j++((a.eval y).cells.toList++m.drop (j+(a.eval y).cells.toList.length))).length=m.length:=by simp at N⊢;omega
     rw[List.length_append,this,<-List.length_append,q5]
    ·have:(m.take j++((a.eval y).cells.toList++m.drop (j+(a.eval y).cells.toList.length))).length=m.length:=by simp at N⊢;omega
     rw[List.length_append,this,<-List.length_append];exact Y
   ·cases q
  ·cases q
 ·cases q
end
end Ev
