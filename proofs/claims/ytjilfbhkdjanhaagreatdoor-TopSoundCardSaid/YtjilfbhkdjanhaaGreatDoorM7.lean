/- Lemmas for a statement on the tops; conditions: as each says. -/
import Derived.Tactics
import Derived.Test.YtjilfbhkdjanhaaGreatDoorM6
set_option linter.all false
set_option maxRecDepth 100000
set_option maxHeartbeats 200000
namespace Go.Proofs.YtjilfbhkdjanhaaGreatDoor
open Go Go.RowKit
namespace Ev
section
variable {P:Program} {E:Env} {n0:Nat} {w0 w:World} {ρ:Rho} {nx fr:Nat} {h:Hp} {t:List AV} {a:Act} {o:Oper} {v:AV}
theorem bs_beq(x:List UInt8):(Bs x==Bs x)=true:=by
 show((Bs x).data==(Bs x).data)=true
 simp
theorem Zl8{kt:Nat}{j:TI}(hT:TyOk P kt j){q:Bool}(hK:q=true->ZdI P kt j\/∀n e,j.k≠ .ar n e){k:A0}{K:Value}(J:A0R ρ k K)(y:Zat j q k=true)(C:Bool)(w:World):(Instr.checkKey C 10000 kt K).run P w=.ok () w:=by
 by_cases u:q=true
 ·rcases hK u with h|h
  ·exact ZiH hT (λ_=>h) J y C w
  ·have D:Zat j false k=true:=by
    unfold Zat at*;split at y
    ·exact y
    ·rename_i n e l I;exact absurd I (h n e)
    ·cases y
   exact ZiH hT (λh=>by cases h) J D C w
 ·exact ZiH hT (λh=>absurd h u) J y C w
theorem ZhQ:∀{z l:List Cl} {m q:List Value},shp z l=true->LR ρ l m->LR ρ l q->m=q/\∀n:Nat,((m.zip m).all λx=>Instr.sameBits n x.1 x.2)=true
 |[],[],[],[],_,_,_=>⟨rfl,λ_=>rfl⟩
 | .b _::z,.b x::l,y::m,j::q,hs,h,h'=>by
  obtain⟨I,D⟩:=ZhQ (z:=z) (by simpa[shp] using hs) h.2 h'.2;have C:y=.bool x:=h.1;have u:j=.bool x:=h'.1;subst C u I;exact⟨rfl,λn=>by simp only[List.zip_cons_cons,List.all_cons,D,Bool.and_true];cases n<;>simp[Instr.sameBits]⟩
 | .i _ _::z,.i k x::l,y::m,j::q,hs,h,h'=>by
  obtain⟨I,D⟩:=ZhQ (z:=z) (by simp[shp] at hs;exact hs.2) h.2 h'.2;have C:y=.int k x:=h.1;have u:j=.int k x:=h'.1;subst C u I;exact⟨rfl,λn=>by simp only[List.zip_cons_cons,List.all_cons,D,Bool.and_true];cases n<;>simp[Instr.sameBits]⟩
 | .s _::z,.s x::l,y::m,j::q,hs,h,h'=>by
  obtain⟨I,D⟩:=ZhQ (z:=z) (by simpa[shp] using hs) h.2 h'.2;have C:y=.string (Bs x):=h.1;have u:j=.string (Bs x):=h'.1;subst C u I;exact⟨rfl,λn=>by simp only[List.zip_cons_cons,List.all_cons,D,Bool.and_true];cases n<;>exact bs_beq x⟩
 |[],[],_::_,_,_,h,_=>h.elim
 |[],[],[],_::_,_,_,h=>h.elim
 |[],_::_,_,_,hs,_,_=>by simp[shp] at hs
 |_::_,[],_,_,hs,_,_=>by simp[shp] at hs
 |_,_::_,[],_,_,h,_=>h.elim
 |_,_::_,_::_,[],_,_,h=>h.elim
theorem A0R.same{J:TI}{q:Bool}{k:A0}{K u:Value}(j:Zat J q k=true)(h:A0R ρ k K)(h':A0R ρ k u):K=u/\Instr.sameBits 10000 K u=true:=by
 unfold Zat at j;split at j
 ·rename_i U I n N
  have D:K=.int I n:=h;have C:u=.int I n:=h';subst D C;exact⟨rfl,by simp[Instr.sameBits]⟩
 ·rename_i n e l N
  simp only[Bool.and_eq_true] at j;obtain⟨m,rfl,L⟩:=h;obtain⟨O,rfl,y⟩:=h';obtain⟨D,C⟩:=ZhQ j.2 L y;subst D;have key:∀d,Instr.sameBits (d+1) (.agg m.toArray) (.agg m.toArray)=true:=λd=>by
   simp only[Instr.sameBits,beq_self_eq_true,Bool.true_and];exact C d
  exact⟨rfl,key 9999⟩
 ·cases j
theorem mk_zero{j:TI}{e:Nat}(hT:TyOk P e j){y:AV}(U:mk j j.zero=some y):∃z,(∀w,(zeroValue e).run P w=.ok z w)/\AR ρ y z:=by
 obtain⟨z,J,I,D,C⟩:=hT.zero;obtain⟨N,L⟩:=Zjs U (I ρ);refine⟨z,J,?_⟩;cases q:j.k.agg with
 |true=>
  obtain⟨m,rfl⟩:=D q;have:=N q;simpa[Value.cells] using this
 |false=>
  obtain⟨x,u,V⟩:=L q;have O:=C q;have:z.cells=#[z]:=by cases z<;>first|rfl|exact absurd rfl (O _)
  rw[this] at u;simp at u;rw[u];exact V
theorem Zhx{b:Nat}{L:List MapEntry}{j:Nat}(h:w.heap[b]?=some (.map L.toArray j)):(getObj b).run P w=.ok (.map L.toArray j) w:=by
 simp only[getObj,Sem.run,h]
theorem map_set{b:Nat}{L:List MapEntry}{j:Nat}(h:w.heap[b]?=some (.map L.toArray j))(ob:Obj):(setObj b ob).run P w=.ok () {w with heap:=w.heap.setIfInBounds b ob}:=by
 simp only[setObj,Sem.run,h]
theorem ZtD(Z:∀t I,E.ty t=some I->TyOk P t I)(hq:∀t I,E.eqt t=true->E.ty t=some I->Zdi P t I/\(∀n e,I.k=.ar n e->ZdI P t I))(ht:TR ρ t a)(hI:IV n0 w0 ρ nx h w){ty:Nat}{x k:Operand}{ok:Bool}(ho:o.op=.lookup ty x k ok){h':Hp}(q:eff E fr t h o.op=some (v,h')):
 ZaO P n0 w0 ρ nx fr a o v h' w:=by
 rw[ho] at q;simp only[eff,Zmx] at q;obtain⟨I,h1,q⟩:=Zc q;obtain⟨d,U,J⟩:=(Z _ _ h1).und;split at q
 case h_2=>cases q
 rename_i kt e i hk hx
 rw[hk] at J;cases d<;>first|exact J.elim|skip
 obtain⟨tk,h2,q⟩:=Zc q;obtain⟨te,h3,q⟩:=Zc q;obtain⟨kv,h4,q⟩:=Zc q;obtain⟨Y,h5,q⟩:=Zc q;obtain⟨zv,h6,q⟩:=Zc q;obtain⟨z,h7,q⟩:=Zc q;split at q
 case h_2=>cases q
 rename_i X ac
 split at q
 case isFalse=>cases q
 rename_i hs
 simp only[Option.some.injEq,Prod.mk.injEq] at q;obtain⟨rfl,rfl⟩:=q;obtain⟨rfl,rfl⟩:=J;obtain⟨b,c,q1,L,ck,q2,q3⟩:=hI.ob _ (Zbq ac);obtain⟨b',c',N,hX⟩:∃b c,ρ i=some (b,c)/\a.eval x=.map (some b):=Zl ht hx;simp only at q1;rw[q1] at N;injection N with N
 injection N with N q5
 subst N;have hK:=AR.a0 (Zl ht h4) h5;unfold ZhO at hs;simp only[Bool.and_eq_true] at hs;have ad:∀(C:E.eqt kt=true),ZdI P kt tk\/∀n e,tk.k≠ .ar n e:=λC=>by
  by_cases D:∃n e,tk.k=.ar n e
  ·obtain⟨n,e,D⟩:=D;exact .inl ((hq _ _ C h2).2 n e D)
  ·exact .inr λn e h=>D ⟨n,e,h⟩
 have W:=λ(em:Bool) w=>Zl8 (P:=P) (Z _ _ h2) ad hK hs.1 em w;obtain⟨r,r1,r2⟩:=ZmQ (Z _ _ h2) (λC=>(hq _ _ C h2).1) hK hs.1 X L q3 hs.2;obtain⟨zV,z1,z2⟩:=mk_zero (ρ:=ρ) (Z _ _ h3) h6;have hz:=AR.a0 z2 h7;have O:∃V,A0R ρ ((Zcf Y X).getD z) V/\(Instr.lookup ty (a.eval x) (a.eval k) ok).run P w=.ok (if ok then .tuple #[V,.bool (Zcf Y X).isSome] else V) w:=by
  unfold Pr at r2;cases hf:Zcf Y X with
  |none=>
   rw[hf] at r2;refine⟨zV,hz,?_⟩;simp only[Instr.lookup,Sem.run_bind,run_und U,Result.andThen_ok,hX,Zhx q2,Sem.run_pure,W,r1,r2.1,z1];rfl
  |some y=>
   rw[hf] at r2;obtain⟨j,V,s1,s2,_⟩:=r2;refine⟨V,s2,?_⟩;simp only[Instr.lookup,Sem.run_bind,run_und U,Result.andThen_ok,hX,Zhx q2,Sem.run_pure,W,r1,s1];rfl
 obtain⟨V,hV,hr⟩:=O;have u:execOp a.eval o=(do let v<-Instr.lookup ty (a.eval x) (a.eval k) ok;pure (.value v)):=by
  unfold execOp;simp only[ho]
 cases ok with
 |true=>exact ZcL u ⟨[V,.bool (Zcf Y X).isSome],rfl,hV,rfl,trivial⟩ hr hI
 |false=>exact ZcL u hV.av hr hI
theorem ZtG(hE:∀t J,E.ty t=some J->TyOk P t J)(hq:∀t J,E.eqt t=true->E.ty t=some J->Zdi P t J/\(∀n e,J.k=.ar n e->ZdI P t J))(ht:TR ρ t a)(hI:IV n0 w0 ρ nx h w){ty:Nat}{x k y:Operand}(ho:o.op=.mapUpdate ty x k y){h':Hp}(q:eff E fr t h o.op=some (v,h')):
 ZaO P n0 w0 ρ nx fr a o v h' w:=by
 rw[ho] at q;simp only[eff,ZmA] at q;obtain⟨J,h1,q⟩:=Zc q;obtain⟨d,Z,O⟩:=(hE _ _ h1).und;split at q
 case h_2=>cases q
 rename_i kt e i hk hx
 rw[hk] at O;cases d<;>first|exact O.elim|skip
 obtain⟨tk,h2,q⟩:=Zc q;obtain⟨kv,h4,q⟩:=Zc q;obtain⟨kc,h5,q⟩:=Zc q;obtain⟨vv,h6,q⟩:=Zc q;obtain⟨vc,h7,q⟩:=Zc q;split at q
 case h_2=>cases q
 rename_i es Y
 split at q
 case isFalse=>cases q
 rename_i hs
 simp only[Option.some.injEq,Prod.mk.injEq] at q;obtain⟨rfl,rfl⟩:=q;obtain⟨rfl,rfl⟩:=O;obtain⟨b,c,q1,L,ck,W,q3⟩:=hI.ob _ (Zbq Y);obtain⟨b',c',U,hX⟩:∃b c,ρ i=some (b,c)/\a.eval x=.map (some b):=Zl ht hx;simp only at q1;rw[q1] at U;injection U with U
 injection U with U q5
 subst U;have hK:=AR.a0 (Zl ht h4) h5;have hV:=AR.a0 (Zl ht h6) h7;unfold ZhO at hs;simp only[Bool.and_eq_true] at hs;have am:∀(C:E.eqt kt=true),ZdI P kt tk\/∀n e,tk.k≠ .ar n e:=λC=>by
  by_cases D:∃n e,tk.k=.ar n e
  ·obtain⟨n,e,D⟩:=D;exact .inl ((hq _ _ C h2).2 n e D)
  ·exact .inr λn e h=>D ⟨n,e,h⟩
 have aa:=λ(em:Bool) w=>Zl8 (P:=P) (hE _ _ h2) am hK hs.1 em w;obtain⟨r,r1,r2⟩:=ZmQ (hE _ _ h2) (λC=>(hq _ _ C h2).1) hK hs.1 es L q3 hs.2;have X:∃(L':List MapEntry) (I:Nat),PW (MR ρ) (Zdz kc vc es) L'/\(Instr.mapUpdate ty (a.eval x) (a.eval k) (a.eval y)).run P w=.ok () {w with heap:=w.heap.setIfInBounds b (.map L'.toArray I)}:=by
  unfold Pr at r2;cases hf:Zcf kc es with
  |none=>
   rw[hf] at r2;refine⟨_,ck+1,r2.2 vc (a.eval y) ck hV,?_⟩;simp only[Instr.mapUpdate,Sem.run_bind,run_und Z,Result.andThen_ok,hX,Zhx W,aa,r1,r2.1,map_set W];congr 4
   apply Array.ext'
   simp
  |some u=>
   rw[hf] at r2;obtain⟨j,V,s1,s2,⟨e',s3,ah⟩,s4⟩:=r2;obtain⟨k1,k2⟩:=A0R.same hs.1 ah hK;refine⟨_,ck,s4 vc (a.eval y) hV,?_⟩;rw[Nat.zero_add] at s1;have N:(Instr.keyThatStays (((L.toArray[j]?).map (·.key)).getD (a.eval k)) (a.eval k)).run P w=.ok (a.eval k) w:=by
    have:((L.toArray[j]?).map (·.key)).getD (a.eval k)=e'.key:=by simp[s3]
    rw[this];simp[Instr.keyThatStays,k2]
   simp only[Instr.mapUpdate,Sem.run_bind,run_und Z,Result.andThen_ok,hX,Zhx W,aa,r1,s1,N,map_set W];congr 4
   apply Array.ext'
   simp
 obtain⟨L',I,p1,p2⟩:=X;refine⟨ρ,{w with heap:=w.heap.setIfInBounds b (.map L'.toArray I)},undef,Zfx ρ,.inr ⟨rfl,?_⟩,
  hI.turn (x:=.mp (Zdz kc vc es)) q1 ⟨_,Zbq Y⟩ rfl rfl rfl (by simp) (λk hk=>by simp only[Array.getElem?_setIfInBounds];rw[if_neg (λe=>hk e.symm)]) ⟨L',I,?_,p1⟩,ρ.le_refl,λ_ _=>rfl⟩
 ·unfold execOp;simp only[ho,Sem.run_bind,p2,Result.andThen_ok,Sem.run_pure]
 ·show(w.heap.setIfInBounds b _)[b]?=_
  have hb:=(Array.getElem?_eq_some_iff.1 W).1;simp[hb]
theorem ZtJ(hE:∀t O,E.ty t=some O->TyOk P t O)(ht:TR ρ t a)(X:IV n0 w0 ρ nx h w){ty:Nat}{x:Operand}{Z hi Y:Option Operand}(ho:o.op=.slice ty x Z hi Y){h':Hp}(j:eff E fr t h o.op=some (v,h')):
 ZaO P n0 w0 ρ nx fr a o v h' w:=by
 rw[ho] at j;cases Y with
 |some q=>simp[eff] at j
 |none=>
 simp only[eff,ZmC] at j;obtain⟨O,h1,j⟩:=Zc j;obtain⟨d,J,D⟩:=(hE _ _ h1).und;split at j
 case h_2=>cases j
 rename_i n e i u hk hx
 rw[hk] at D;cases d<;>first|exact D.elim|skip
 obtain⟨te,h2,j⟩:=Zc j;obtain⟨p,h3,j⟩:=Zc j;obtain⟨q,h4,j⟩:=Zc j;split at j
 case h_2=>cases j
 rename_i l tt W U
 split at j
 case isFalse=>cases j
 rename_i hc
 simp only[Option.some.injEq,Prod.mk.injEq] at j;obtain⟨rfl,rfl⟩:=j;obtain⟨rfl,rfl⟩:=D;obtain⟨b,c,N,m,rest,fz,q2,q3,q4,q5,_⟩:=X.ob _ (Zbq W);obtain⟨b',c',I,hX⟩:∃b c,ρ i=some (b,c)/\a.eval x=.pointer (some ⟨b,u,none⟩):=Zl ht hx;simp only at N;rw[N] at I;injection I with I
 injection I with I q7
 subst I;have hr:=q4 rfl;subst hr;rw[List.append_nil,Nat.mul_one,<-q3.len] at q5;have hb:=λw=>ZhK (P:=P) (a:=a) (cap:=n) false ht h3 h4 hc.2.1 hc.2.2 w;have L:=hE _ _ h2;have y:execOp a.eval o=(do let v<-Instr.sliceAt ty (a.eval x) (Z.map a.eval) (hi.map a.eval) none;pure (.value v)):=by
  unfold execOp;simp only[ho];rfl
 have C:n - p=c - (l.length - (n - p)):=by omega
 by_cases hn:n=p
 ·refine ZcL (V:=.slice (some ⟨b,u,none⟩) (q - p) (n - p)) y ⟨b,c,u,N,by omega,λj=>?_,by rw[<-C]⟩ ?_ X
  ·rcases j with j|j
   ·omega
   ·omega
  ·simp only[Instr.sliceAt,Sem.run_bind,run_und J,Result.andThen_ok,hX,Instr.sureAddr,Sem.run_pure,hb,L.sizeOf,if_pos hn]
 ·refine ZcL (V:=.slice (some ⟨b,u+p,none⟩) (q - p) (n - p)) y ⟨b,c,u+p,N,by omega,λj=>rfl,by rw[<-C]⟩ ?_ X;simp only[Instr.sliceAt,Sem.run_bind,run_und J,Result.andThen_ok,hX,Instr.sureAddr,Sem.run_pure,hb,L.sizeOf,if_neg hn,U,Nat.mul_one,add_eq]
theorem eff_ok(D:∀t J,E.ty t=some J->TyOk P t J)(N:∀t J,E.eqt t=true->E.ty t=some J->Zdi P t J/\(∀n e,J.k=.ar n e->ZdI P t J))(hG:GOk E n0 w0)(C:TR ρ t a)(u:IV n0 w0 ρ nx h w)(I:fr<nx)(hn:ρ fr=none){h':Hp}(j:eff E fr t h o.op=some (v,h')):
 ZaO P n0 w0 ρ nx fr a o v h' w:=by
 cases q:o.op with
 |alloc e=>exact Ztw D u I hn q j
 |box e x=>exact Ztz C u I hn q j
 |buildSlice ty n ps=>exact ZtA D C u I hn q j
 |load ty x=>exact ZtC D hG C u q j
 |store ty x y=>exact ZtK D C u q j
 |makeSlice ty x y=>exact ZtF D C u I hn q j
 |makeMap ty x=>exact ZtE u I hn q j
 |slice ty x U V O=>exact ZtJ D C u q j
 |convert s d x=>exact ZtB D hG C u I hn q j
 |range ty x=>exact ZtI D C u I hn q j
 |next x b=>exact ZtH C u q j
 |lookup ty x k ok=>exact ZtD D N C u q j
 |mapUpdate ty x k y=>exact ZtG D N C u q j
 |call c=>
  cases L:c.callee with
  |builtin b=>
   cases b<;>first|exact Zty D hG C u I hn L q j|(rw[q] at j;simp[eff,Zhc,L] at j)
  |_=>rw[q] at j;simp[eff,Zhc,L] at j
 |_=>rw[q] at j;simp[eff] at j
end
end Ev
namespace Ev
noncomputable section
inductive Ex where
 |nrm|exit (id:Nat)|ret
 deriving DecidableEq
abbrev R3:=AV×Nat×Hp
abbrev Zbz:=Nat->List AV->Nat->Hp->Option R3
def evs(t:List AV):List Operand->Option (List AV)
 |[]=>some []
 |x::l=>opt (ev t x) λv=>opt (evs t l) λr=>some (v::r)
def pAV:List (Nat×Nat)->List AV
 |[]=>[]
 |(i,o)::l=>.c (.p i o)::pAV l
def Zl3(cf:Zbz)(t:List AV)(nx:Nat)(h:Hp):Op->Option R3
 | .call c=>match c.callee with
  | .value f=>match ev t f with
   |some (.c (.fn k fs cs))=>opt (evs t c.args.toList) λl=>cf k (pAV fs++(l++pAV cs)) nx h
   |_=>none
  |_=>none
 |_=>none
def insH(x:Nat×Ob)(l:Hp):Hp:=List.rec (motive:=λ_=>Hp) [x] (λy r j=>cond (Nat.blt x.1 y.1) (y::j) (x::y::r)) l
def nrmH(h:Hp):Hp:=match h with
 |[]=>[]
 |x::l=>insH x l
def stp(E:Env)(cf:Zbz)(fr:Nat)(t:List AV)(nx:Nat)(h:Hp)(op:Op):Option R3:=
 match pop E t op with
 |some v=>some (v,nx,h)
 |none=>match eff E fr t h op with
  |some (v,h')=>some (v,nx,nrmH h')
  |none=>Zl3 cf t nx h op
def Zdd(d:Option Nat)(v:AV)(t:List AV):List AV:=match d with
 |some i=>setN v t i
 |none=>t
def ZgD(ops:List Oper)(t:List AV)(o:Oper):Bool:=match o.guard with
 |none=>true
 |some (j,y)=>match ZaW ops j with
  |some q=>match q.dst with
   |some d=>match ZaW t d with
    |some (.c (.b x))=>x==y
    |_=>false
   |none=>false
  |none=>false
def ZjU(E:Env)(cf:Zbz)(ops:List Oper)(o:Oper)(j:List AV->Nat->Hp->Option (List AV×Nat×Hp))(t:List AV)(nx:Nat)(h:Hp):Option (List AV×Nat×Hp):=
 if ZgD ops t o then(match stp E cf nx t (nx+1) h o.op with
  |some (v,nx',h')=>j (Zdd o.dst v t) nx' h'
  |none=>none) else j (Zdd o.dst (.t []) t) nx h
def regS(E:Env)(cf:Zbz)(ops:List Oper)(l:List Oper):List AV->Nat->Hp->Option (List AV×Nat×Hp):=
 List.rec (motive:=λ_=>List AV->Nat->Hp->Option (List AV×Nat×Hp)) (λt nx h=>some (t,nx,h)) (λo _ j=>ZjU E cf ops o j) l
abbrev Lds:=List (Nat×Nat×List Cl)
def fcl:Cl->Bool
 | .sl _ _ len cut=>len !=0||cut==0
 |_=>true
def ldOf(E:Env)(base:Nat)(t:List AV)(h:Hp):Op->Option (AV×Lds)
 | .load ty x=>opt (E.ty ty) λj=>match ev t x with
  |some (.c (.p i o))=>if i<base then opt (Zcw E h (.c (.p i o)) j.size) λl=>if l.all fcl then opt (mk j l) λv=>some (v,[(i,o,l)]) else none else none
  |some (.c (.g i o))=>opt (Zcw E h (.c (.g i o)) j.size) λl=>opt (mk j l) λv=>some (v,[])
  |_=>none
 |_=>none
def quiet(E:Env)(q:Bool)(ops:List Oper)(base:Nat)(t:List AV)(h:Hp)(o:Oper):Option (AV×Lds):=
 if ZgD ops t o then match pop E t o.op with
  |some v=>some (v,[])
  |none=>if q then ldOf E base t h o.op else none
 else some (.t [],[])
def pick(E:Env)(q:Bool)(ops:List Oper)(j:Array Bool)(base:Nat)(t:List AV)(h:Hp):List Nat->Option (Nat×Oper×AV×Lds)
 |[]=>none
 |i::r=>match ZaW ops i with
  |some o=>match quiet E q ops base t h o with
   |some (v,l)=>if Region.free .any ops.toArray j i then some (i,o,v,l) else pick E q ops j base t h r
   |none=>pick E q ops j base t h r
  |none=>pick E q ops j base t h r
structure RO where
 t:List AV
 nx:Nat
 h:Hp
 ld:Lds
 hs:List Hp
def stpW(E:Env)(cf:Zbz)(ops:List Oper)(fr:Nat)(t:List AV)(nx:Nat)(h:Hp)(o:Oper):Option R3:=
 if ZgD ops t o then stp E cf fr t nx h o.op else some (.t [],nx,h)
def Zd2(E:Env)(q:Bool)(cf:Zbz)(ops:List Oper)(base:Nat):Nat->Array Bool->List AV->Nat->Hp->Option RO
 |0,u,t,nx,h=>match Region.ready .any ops.toArray u with
  |[]=>some ⟨t,nx,h,[],[]⟩
  |_=>none
 |n+1,u,t,nx,h=>match Region.ready .any ops.toArray u with
  |[]=>some ⟨t,nx,h,[],[]⟩
  |rs=>match pick E q ops u base t h rs with
   |some (i,o,v,l)=>opt (Zd2 E q cf ops base n (u.setIfInBounds i true) (Zdd o.dst v t) nx h) λr=>some {r with ld:=l++r.ld}
   |none=>match rs with
    |[i]=>opt (ZaW ops i) λo=>opt (stpW E cf ops (base+i) t nx h o) λs=>opt (Zd2 E q cf ops base n (u.setIfInBounds i true) (Zdd o.dst s.1 t) s.2.1 s.2.2) λr=>some {r with hs:=s.2.2::r.hs}
    |[i,j]=>opt (ZaW ops i) λo=>opt (stpW E cf ops (base+i) t nx h o) λs=>opt (Zd2 E q cf ops base n (u.setIfInBounds i true) (Zdd o.dst s.1 t) s.2.1 s.2.2) λr=>
     opt (ZaW ops j) λC=>opt (stpW E cf ops (base+j) t nx h C) λy=>opt (Zd2 E q cf ops base n (u.setIfInBounds j true) (Zdd C.dst y.1 t) y.2.1 y.2.2) λr2=>
      if r.t=r2.t/\r.nx=r2.nx/\r.h=r2.h then some {r with ld:=r.ld++r2.ld,hs:=s.2.2::y.2.2::(r.hs++r2.hs)} else none
    |_=>none
def Zcz(E:Env)(base:Nat)(ld:Lds)(h:Hp):Bool:=ld.all λx=>decide (x.1<base)&&x.2.2.all fcl&&decide (Zcw E h (.c (.p x.1 x.2.1)) x.2.2.length=some x.2.2)
def regQ(E:Env)(q:Bool)(cf:Zbz)(ops:List Oper)(t:List AV)(nx:Nat)(h:Hp):Option (List AV×Nat×Hp):=
 if Region.noSelect ops.toArray then opt (Zd2 E q cf ops nx ops.length (Array.replicate ops.length false) t (nx+ops.length) h) λr=>if(h::r.hs).all (Zcz E nx r.ld) then some (r.t,r.nx,r.h) else none else none
def regD(E:Env)(cf:Zbz)(ops:List Oper)(t:List AV)(nx:Nat)(h:Hp):Option (List AV×Nat×Hp):=
 match regQ E true cf ops t nx h with
 |some r=>some r
 |none=>regQ E false cf ops t nx h
def Zcc(b:Nat):List Cl->List Nat
 |[]=>[]
 | .p i _::l=>if b<=i then i::Zcc b l else Zcc b l
 | .sl i _ _ _::l=>if b<=i then i::Zcc b l else Zcc b l
 | .m i::l=>if b<=i then i::Zcc b l else Zcc b l
 | .fn _ fs cs::l=>fs.map (·.1)++(cs.map (·.1)++Zcc b l)
 |_::l=>Zcc b l
def Zix(b:Nat):List A0->List Nat
 |[]=>[]
 | .c x::l=>Zcc b [x]++Zix b l
 | .a m::l=>Zcc b m++Zix b l
def avIds(b:Nat):AV->List Nat
 | .c x=>Zcc b [x]
 | .a l=>Zcc b l
 | .t l=>Zix b l
def obIds(b:Nat):Ob->List Nat
 | .cl l _ _ _=>Zcc b l
 |_=>[]
def reach(b:Nat)(h:Hp):Nat->List Nat->List Nat->List Nat
 |0,_,acc=>acc
 |n+1,j,acc=>match j.flatMap λi=>match look h i with|some o=>obIds b o|none=>[] with
  |[]=>acc
  |nw=>reach b h n nw (nw++acc)
def Zer(b:Nat)(j:List Nat):Hp->Hp
 |[]=>[]
 |x::l=>if x.1<b then x::Zer b j l else if j.contains x.1 then x::Zer b j l else Zer b j l
def gc(b:Nat)(v:AV)(h:Hp):Hp:=
 let j:=avIds b v
 Zer b (reach b h 6 j j) h
def Zd5(E:Env)(t:List AV)(h:Hp):List ResultVar->Option (List AV)
 |[]=>some []
 | .tmp i::l=>opt (ZaW t i) λv=>opt (Zd5 E t h l) λr=>some (v::r)
 | .cell i ty::l=>opt (E.ty ty) λj=>opt (ZaW t i) λx=>opt (Zcw E h x j.size) λc=>opt (mk j c) λv=>opt (Zd5 E t h l) λr=>some (v::r)
def a0s:List AV->Option (List A0)
 |[]=>some []
 |v::l=>opt v.a0 λx=>opt (a0s l) λr=>some (x::r)
def ZhB:List AV->Option AV
 |[v]=>some v
 |l=>opt (a0s l) λr=>some (.t r)
def cl(E:Env)(j:Nat->List AV->Hp->Option AV)(esc:Nat->Bool)(run:Code->List AV->Nat->Hp->Option (Ex×List AV×Nat×Hp)):Zbz:=λf args nx h=>
 opt (E.fn f) λF=>opt F.body λc=>match j f args h with
 |some v=>some (v,nx,h)
 |none=>match run c (args++List.replicate (F.ntmps - args.length) (.t [])) nx h with
  |some (e,q,nx',h')=>match e with
   | .exit _=>none
   |_=>opt (Zd5 E q h' F.results.toList) λl=>opt (ZhB l) λv=>some (v,nx',if esc f then h' else gc nx v h')
  |none=>none
abbrev Zdn:=Code->List AV->Nat->Hp->Option (Ex×List AV×Nat×Hp)
def fin(m:Nat)(s:List AV×Nat×Hp):Option (Ex×List AV×Nat×Hp):=
 cond (Nat.beq (m % 16) 0) (frc s.1 λt=>frc s.2.2 λh=>some (.nrm,t,s.2.1,h)) (some (.nrm,s))
def xReg(E:Env)(m:Nat)(cf:Zbz)(ops:List Oper)(t:List AV)(nx:Nat)(h:Hp):Option (Ex×List AV×Nat×Hp):=opt (regS E cf ops ops t nx h) (fin m)
def ZkA(E:Env)(cf:Zbz)(ops:List Oper)(t:List AV)(nx:Nat)(h:Hp):Option (Ex×List AV×Nat×Hp):=opt (regD E cf ops t nx h) λs=>some (.nrm,s)
def xSeq(j:Zdn)(a b:Code)(t:List AV)(nx:Nat)(h:Hp):Option (Ex×List AV×Nat×Hp):=match j a t nx h with
 |some (.nrm,q,nx',h')=>j b q nx' h'
 |r=>r
def Zky(j:Zdn)(x:Operand)(a b:Code)(t:List AV)(nx:Nat)(h:Hp):Option (Ex×List AV×Nat×Hp):=match evB t x with
 |some true=>j a t nx h
 |some false=>j b t nx h
 |none=>none
def Zkx(q:Zdn)(id:Nat)(b:Code)(t:List AV)(nx:Nat)(h:Hp):Option (Ex×List AV×Nat×Hp):=match q b t nx h with
 |some (.exit j,s)=>if j=id then some (.nrm,s) else some (.exit j,s)
 |r=>r
def Zkz(j:Zdn)(b:Code)(t:List AV)(nx:Nat)(h:Hp):Option (Ex×List AV×Nat×Hp):=match j b t nx h with
 |some (.nrm,q,nx',h')=>j (.loop b) q nx' h'
 |r=>r
def Ze9(E:Env)(q:Nat->List AV->Hp->Option AV)(esc:Nat->Bool)(m:Nat)(j:Zdn)(c:Code)(t:List AV)(nx:Nat)(h:Hp):Option (Ex×List AV×Nat×Hp):=match c with
 | .skip=>some (.nrm,t,nx,h)
 | .label _=>some (.nrm,t,nx,h)
 | .region _ ops false=>xReg E m (cl E q esc j) ops.toList t nx h
 | .region _ ops true=>ZkA E (cl E q esc j) ops.toList t nx h
 | .seq a b=>xSeq j a b t nx h
 | .cond x a b=>Zky j x a b t nx h
 | .block id b=>Zkx j id b t nx h
 | .loop b=>Zkz j b t nx h
 | .exit id=>some (.exit id,t,nx,h)
 | .ret=>some (.ret,t,nx,h)
 |_=>none
def ex(E:Env)(j:Nat->List AV->Hp->Option AV)(esc:Nat->Bool)(n:Nat):Zdn:=
 Nat.rec (motive:=λ_=>Zdn) (λ_ _ _ _=>none) (λm q=>Ze9 E j esc m q) n
def run(E:Env)(j:Nat->List AV->Hp->Option AV)(esc:Nat->Bool)(n f:Nat)(args:List AV):Option AV:=
 opt (cl E j esc (ex E j esc n) f args 0 []) λr=>some r.1
end
end Ev
namespace Ev
structure EOk (P:Program)(E:Env)(n0:Nat)(w0:World):Prop where
 ty:∀t ti,E.ty t=some ti->TyOk P t ti
 eq:∀t ti,E.eqt t=true->E.ty t=some ti->Zdi P t ti/\(∀n e,ti.k= .ar n e->ZdI P t ti)
 gl:GOk E n0 w0
 fn:∀f F,E.fn f=some F->P.funcs[f]? =some F/\(F.name== "runtime.NumGoroutine")=false
 mixed:P.follows .mixedOrders=true
def CPost(n0:Nat)(w0:World)(ρ:Rho)(nx:Nat)(v:AV)(nx':Nat)(h':Hp)(e:Ending)(w':World):Prop:=
 ∃ρ' V,e=.returned V/\AR ρ' v V/\IV n0 w0 ρ' nx' h' w'/\nx<=nx'/\∀i,i<nx->ρ' i=ρ i
def Zee(P:Program)(n0:Nat)(w0:World)(cf:Zbz):Prop:=
 ∀f args nx h v nx' h',cf f args nx h=some (v,nx',h')->(∃F,P.funcs[f]?=some F/\(F.name== "runtime.NumGoroutine")=false/\F.body.isNone=false)/\
  ∀ρ w (A:List Value),IV n0 w0 ρ nx h w->PW (AR ρ) args A->Calls P f A.toArray w (CPost n0 w0 ρ nx v nx' h')
section
variable {P:Program} {E:Env} {n0:Nat} {w0 w:World} {ρ:Rho} {nx fr:Nat} {h:Hp} {t:List AV} {a:Act} {o:Oper} {v:AV} {cf:Zbz}
theorem ZuL{ρ':Rho}(y:IV n0 w0 ρ nx h w)(q:∀i,i<nx->ρ' i=ρ i):ρ.le ρ':=by
 intro i x j;by_cases u:i<nx
 ·rw[q i u];exact j
 ·rw[y.fresh i (by omega)] at j;cases j
theorem ZmJ(j:TR ρ t a):∀{l:List Operand} {r:List AV},evs t l=some r->PW (AR ρ) r (l.map a.eval)
 |[],r,h=>by simp only[evs,Option.some.injEq] at h;subst h;trivial
 |x::l,r,h=>by
  simp only[evs] at h;obtain⟨v,u,h⟩:=Zc h;obtain⟨y,q,h⟩:=Zc h;injection h with h;subst h
  exact⟨Zl j u,ZmJ j q⟩
theorem ZjE:∀{l:List (Nat×Nat)} {m:List Value},PW (PtR ρ) l m->PW (AR ρ) (pAV l) m
 |[],[],_=>trivial
 |_::_,_::_,h=>⟨h.1,ZjE h.2⟩
 |[],_::_,h=>h.elim
 |_::_,[],h=>h.elim
theorem Zng{x:Nat×Ob}:∀{l:Hp} {y:Nat×Ob},y∈insH x l->y=x\/y∈l
 |[],y,h=>by
  have j:y∈[x]:=h;exact .inl (by simpa using j)
 |z::l,y,h=>by
  have j:y∈cond (Nat.blt x.1 z.1) (z::insH x l) (x::z::l):=h;cases e:Nat.blt x.1 z.1 with
  |true=>
   rw[e] at j;rcases List.mem_cons.1 j with rfl|j
   ·exact .inr (List.mem_cons_self ..)
   ·rcases Zng j with q|q
    ·exact .inl q
    ·exact .inr (List.mem_cons_of_mem _ q)
  |false=>
   rw[e] at j;rcases List.mem_cons.1 j with rfl|j
   ·exact .inl rfl
   ·exact .inr j
theorem Zu7{h:Hp}{y:Nat×Ob}(j:y∈nrmH h):y∈h:=by
 unfold nrmH at j;split at j
 ·exact j
 ·rcases Zng j with rfl|q
  ·exact List.mem_cons_self ..
  ·exact List.mem_cons_of_mem _ q
theorem Zpf(q:EOk P E n0 w0)(af:Zee P n0 w0 cf)(Z:TR ρ t a)(hI:IV n0 w0 ρ nx h w)(hf:fr<nx)(hn:ρ fr=none){nx':Nat}{h':Hp}(hs:stp E cf fr t nx h o.op=some (v,nx',h')){K:Act->World->Prop}{Q:Exit->Act->World->Prop}
 (hK:∀ρ' V w',AR ρ' v V->IV n0 w0 ρ' nx' h' w'->ρ.le ρ'->nx<=nx'->(∀i,i<nx->i≠fr->ρ' i=ρ i)->K (a.put o.dst V) w'):o.wp P a w K Q:=by
 unfold stp at hs;split at hs
 ·rename_i u hp
  simp only[Option.some.injEq,Prod.mk.injEq] at hs;obtain⟨rfl,rfl,rfl⟩:=hs;obtain⟨V,N,I⟩:=Zoo q.ty (λt ti h1 h2=>(q.eq t ti h1 h2).1) Z hp;unfold Oper.wp;rw[I w];exact hK ρ V w N hI ρ.le_refl NL (λ_ _ _=>rfl)
 ·rename_i hp
  split at hs
  ·rename_i u h1 he
   simp only[Option.some.injEq,Prod.mk.injEq] at hs;obtain⟨rfl,rfl,rfl⟩:=hs;obtain⟨ρ',w',V,N,I,ah,C,j⟩:=eff_ok q.ty q.eq q.gl Z hI hf hn he;have D:=ah.sub (h':=nrmH h1) (λy hy=>Zu7 hy);unfold Oper.wp;rcases I with I|⟨hu,I⟩
   ·rw[I];exact hK ρ' V w' N D C NL (λi _ U=>j i U)
   ·rw[I];subst hu;exact hK ρ' undef w' N D C NL (λi _ U=>j i U)
  ·rename_i he
   unfold Zl3 at hs;split at hs
   case h_2=>cases hs
   rename_i c hc
   split at hs
   case h_2=>cases hs
   rename_i f W
   split at hs
   case h_2=>cases hs
   rename_i k fs cs ac
   obtain⟨l,hl,hs⟩:=Zc hs;obtain⟨m,n,hF,ad,ae⟩:=Zl Z ac;have L:=ZmJ Z hl;obtain⟨⟨F,aj,ai,Y⟩,J⟩:=af _ _ _ _ _ _ _ hs;have ab:PW (AR ρ) (pAV fs++(l++pAV cs)) (m++(c.args.toList.map a.eval++n)):=(ZjE ad).app (L.app (ZjE ae));have hC:=J ρ w _ hI ab;have O:(execOp a.eval o).run P w=.ok (.enter k (m++(c.args.toList.map a.eval++n)).toArray) w:=by
    have X:m.toArray++c.args.map a.eval++n.toArray=(m++(c.args.toList.map a.eval++n)).toArray:=by
     apply Array.ext';simp
    unfold execOp;simp only[hc,resolve,W,hF,Deferred.ofValue,Sem.run_bind,Sem.run_pure,Result.andThen_ok,invoke,callFunc,X];have g2:¬F.name= "runtime.NumGoroutine" :=by simpa using ai
    have g3:¬F.body=none:=by intro e;rw[e] at Y;cases Y
    simp[aj,g2,g3]
   unfold Oper.wp;rw[O,Oper.upon_enter];refine Calls.mono hC ?_;rintro e w' ⟨ρ',V,rfl,N,D,C,j⟩;exact hK ρ' V w' N D (ZuL hI j) C (λi U _=>j i U)
theorem ZhH{d:Option Nat}{V:Value}(j:TR ρ t a)(q:AR ρ v V):TR ρ (Zdd d v t) (a.put d V):=by
 cases d with
 |none=>exact j
 |some i=>
  unfold Zdd;simp only[ZoZ];exact put_ok j q
theorem ZhI{d:Option Nat}{V:Value}:(a.put d V).defers=a.defers:=by cases d<;>rfl
theorem TR.mono{σ:Rho}(h:ρ.le σ)(j:TR ρ t a):TR σ t a:=PW.mono (AR.mono h) j
theorem Zkr{ops:Array Oper}(I:TR ρ t a):ZgD ops.toList t o=Region.wanted o (yielded ops a.tmps):=by
 unfold ZgD Region.wanted;cases Y:o.guard with
 |none=>rfl
 |some L=>
  obtain⟨j,y⟩:=L;simp only;rw[ZbF];unfold yielded;rw[Array.getElem?_toList];cases X:ops[j]? with
  |none=>simp
  |some J=>
   simp only[Option.bind_some];cases hd:J.dst with
   |none=>simp
   |some d=>
    simp only[Option.bind_some];rw[ZbF];cases D:t[d]? with
    |none=>
     have:a.tmps[d]?=none:=by
      have W:=I.len;have U:=List.getElem?_eq_none_iff.1 D;have O:a.tmps.toList[d]?=none:=List.getElem?_eq_none_iff.2 (by rw[<-W];exact U);simpa using O
     rw[this];rfl
    |some u=>
     obtain⟨V,N,q⟩:=I.get D;have C:a.tmps[d]?=some V:=by simpa using N
     rw[C];cases u with
     |a l=>obtain⟨m,rfl,_⟩:=q;rfl
     |t l=>obtain⟨m,rfl,_⟩:=q;rfl
     |c x=>
      cases x with
      |b z=>
       have e:V=.bool z:=q;subst e;simp only;cases z<;>cases y<;>rfl
      |i _ _=>have e:=q;simp only[AR,VR] at e;subst e;rfl
      |s _=>have e:=q;simp only[AR,VR] at e;subst e;rfl
      |zp=>have e:=q;simp only[AR,VR] at e;subst e;rfl
      |zs=>have e:=q;simp only[AR,VR] at e;subst e;rfl
      |zf=>have e:=q;simp only[AR,VR] at e;subst e;rfl
      |zi=>have e:=q;simp only[AR,VR] at e;subst e;rfl
      |zm=>have e:=q;simp only[AR,VR] at e;subst e;rfl
      |g _ _=>have e:=q;simp only[AR,VR] at e;subst e;rfl
      |p _ _=>obtain⟨b,c,_,rfl⟩:=q;rfl
      |m _=>obtain⟨b,c,_,rfl⟩:=q;rfl
      |sl _ _ _ _=>obtain⟨b,c,o,_,_,_,rfl⟩:=q;rfl
      |fn _ _ _=>obtain⟨m,n,rfl,_⟩:=q;rfl
def Ex.toE:Ex->Exit
 | .nrm=>.normal
 | .exit id=>.exit id
 | .ret=>.ret
def SP(n0:Nat)(w0:World)(ρ:Rho)(nx:Nat)(e:Ex)(q:List AV)(nx':Nat)(h':Hp):Exit->Act->World->Prop:=λx j w'=>
 x=e.toE/\j.defers=[]/\∃ρ',IV n0 w0 ρ' nx' h' w'/\TR ρ' q j/\nx<=nx'/\∀i,i<nx->ρ' i=ρ i
theorem SP.mono{ρ':Rho}{j nx':Nat}{e:Ex}{u:List AV}{h':Hp}(C:nx<=j)(q:∀i,i<nx->ρ' i=ρ i){x:Exit}{y:Act}{w':World}(h:SP n0 w0 ρ' j e u nx' h' x y w'):SP n0 w0 ρ nx e u nx' h' x y w':=by
 obtain⟨O,N,σ,L,J,U,I⟩:=h;exact⟨O,N,σ,L,J,by omega,λi D=>(I i (by omega)).trans (q i D)⟩
theorem SP.nopanic{e:Ex}{q:List AV}{nx':Nat}{h':Hp}(c:List PanicEntry)(y j:Act)(w':World)(h:SP n0 w0 ρ nx e q nx' h' (.panic c) y w'):SP n0 w0 ρ nx e q nx' h' (.panic c) j w':=by
 obtain⟨u,_⟩:=h;cases e<;>cases u
theorem Zvq{Q y:Exit->Act->World->Prop}(q:∀x a w,Q x a w->y x a w){K C:Act->World->Prop}(u:∀a w,K a w->C a w)(j:o.wp P a w K Q):o.wp P a w C y:=by
 unfold Oper.wp at*;generalize (execOp a.eval o).run P w=r at*;cases r with
 |ok n w'=>
  cases n<;>simp only[Oper.upon] at j⊢<;>
   first
    |exact u _ _ j
    |exact Calls.mono j (λe I he=>by cases e<;>first|exact u _ _ he|exact q _ _ _ he|(obtain⟨L,D,J⟩:=he;exact⟨L,D,q _ _ _ J⟩))
    |exact Rows.mono j (λ_ _ he=>u _ _ he)
 |halt x w'=>cases x<;>simp only[Oper.upon] at j⊢<;>first|exact q _ _ _ j|exact j
theorem Zkt{ops:Array Oper}{Q u:Exit->Act->World->Prop}(j:∀x a w,Q x a w->u x a w):∀{l:List Oper} {a:Act} {w:World},wpList P ops Q l a w->wpList P ops u l a w
 |[],_,_,h=>j _ _ _ h
 |o::l,a,w,h=>by
  unfold wpList at*;split
  ·rename_i q
   rw[if_pos q] at h;rcases h with h|⟨D,I,y,C⟩
   ·exact .inl (Zvq j (λa w h=>Zkt j h) h)
   ·exact .inr ⟨D,I,y,j _ _ _ C⟩
  ·rename_i q
   rw[if_neg q] at h;exact Zkt j h
theorem ZjT(u:EOk P E n0 w0)(q:Zee P n0 w0 cf)(ops:Array Oper):∀(l:List Oper) (t:List AV) (nx:Nat) (h:Hp) (y:List AV) (nx':Nat) (h':Hp) (ρ:Rho) (a:Act) (w:World),regS E cf ops.toList l t nx h=some (y,nx',h')->TR ρ t a->IV n0 w0 ρ nx h w->a.defers=[]->
 wpList P ops (SP n0 w0 ρ nx .nrm y nx' h') l a w
 |[],t,nx,h,y,nx',h',ρ,a,w,hs,C,J,hd=>by
  have j:some (t,nx,h)=some (y,nx',h'):=hs;simp only[Option.some.injEq,Prod.mk.injEq] at j;obtain⟨rfl,rfl,rfl⟩:=j;exact⟨rfl,hd,ρ,J,C,Nat.le_refl _,λ_ _=>rfl⟩
 |o::l,t,nx,h,y,nx',h',ρ,a,w,hs,C,J,hd=>by
  have j:ZjU E cf ops.toList o (regS E cf ops.toList l) t nx h=some (y,nx',h'):=hs;unfold ZjU at j;rw[Zkr C] at j;unfold wpList;split at j
  ·rename_i L
   rw[if_pos L]
   left
   split at j
   ·rename_i v W h1 D
    refine Zpf u q C (J.next 1) (by omega) (J.fresh nx NL) D (λρ' V w' Z U N X O=>?_);have I:∀i,i<nx->ρ' i=ρ i:=λi hi=>O i (by omega) (by omega);refine Zkt ?_ (ZjT u q ops l _ _ _ _ _ _ ρ' _ w' j (ZhH (C.mono N) Z) U (by rw[ZhI];exact hd));exact λx a' w' Y=>SP.mono (by omega) I Y
   ·cases j
  ·rename_i L
   rw[if_neg L];exact ZjT u q ops l _ _ _ _ _ _ ρ _ w j (ZhH C (Zfx ρ)) J (by rw[ZhI];exact hd)
end
end Ev
namespace Ev
section
variable {P:Program} {E:Env} {n0:Nat} {w0 w:World} {ρ:Rho} {nx fr:Nat} {h:Hp} {t:List AV} {a:Act} {o:Oper} {v:AV} {cf:Zbz}
theorem PtR.fun'{x:Nat×Nat}{u v:Value}(h:PtR ρ x u)(h':PtR ρ x v):u=v:=by
 obtain⟨b,c,q,rfl⟩:=h;obtain⟨C,y,j,rfl⟩:=h';rw[q] at j;injection j with j
 injection j with j h3
 rw[j]
theorem PW.funs{α:Type}{R:α->Value->Prop}(hR:∀x u v,R x u->R x v->u=v):∀{l:List α} {m j:List Value},PW R l m->PW R l j->m=j
 |[],[],[],_,_=>rfl
 |_::_,_::_,_::_,h,h'=>by rw[hR _ _ _ h.1 h'.1,PW.funs hR h.2 h'.2]
 |[],_::_,_,h,_=>h.elim
 |[],[],_::_,_,h=>h.elim
 |_::_,[],_,h,_=>h.elim
 |_::_,_::_,[],_,h=>h.elim
theorem VR.fun'{x:Cl}(J:fcl x=true){u v:Value}(h:VR ρ x u)(h':VR ρ x v):u=v:=by
 cases x<;>first
  |(simp only[VR] at h h';rw[h,h'];done)
  |(obtain⟨b,c,y,rfl⟩:=h;obtain⟨O,N,j,rfl⟩:=h';rw[y] at j;injection j with j;injection j with j C;rw[j];done)
  |skip
 ·rename_i id I len cut
  obtain⟨b,c,o,y,j,C,rfl⟩:=h;obtain⟨O,N,U,q,X,L,rfl⟩:=h';rw[y] at q;injection q with q
  injection q with q h7
  subst q h7;have D:len≠0\/cut=0:=by simpa[fcl] using J
  rw[C D,L D]
 ·obtain⟨m,n,rfl,y,j⟩:=h;obtain⟨W,V,rfl,C,q⟩:=h';rw[PW.funs (R:=PtR ρ) (λ_ _ _ a b=>PtR.fun' a b) y C,PW.funs (R:=PtR ρ) (λ_ _ _ a b=>PtR.fun' a b) j q]
theorem LR.fun':∀{l:List Cl} {m q:List Value},l.all fcl=true->LR ρ l m->LR ρ l q->m=q
 |[],[],[],_,_,_=>rfl
 |_::_,_::_,_::_,j,h,h'=>by
  simp only[List.all_cons,Bool.and_eq_true] at j;rw[VR.fun' j.1 h.1 h'.1,LR.fun' j.2 h.2 h'.2]
 |[],_::_,_,_,h,_=>h.elim
 |[],[],_::_,_,_,h=>h.elim
 |_::_,[],_,_,h,_=>h.elim
 |_::_,_::_,[],_,_,h=>h.elim
theorem PW.mem{α β:Type}{R:α->β->Prop}:∀{l:List α} {m:List β} {x:α},PW R l m->x∈l->∃y∈m,R x y
 |y::l,z::m,x,h,j=>by
  rcases List.mem_cons.1 j with rfl|j
  ·exact⟨z,List.mem_cons_self ..,h.1⟩
  ·obtain⟨u,C,q⟩:=PW.mem h.2 j;exact⟨u,List.mem_cons_of_mem _ C,q⟩
 |[],_,_,_,j=>by cases j
 |_::_,[],_,h,_=>h.elim
def LdR(ρ:Rho)(x:Nat×Nat×List Cl)(d:Nat×Nat×List Value):Prop:=(∃c,ρ x.1=some (d.1,c))/\d.2.1=x.2.1/\LR ρ x.2.2 d.2.2
def SS(n0:Nat)(w0:World)(D:List (Nat×Nat×List Value))(w:World):Prop:=Below n0 w0 w/\∀d∈D,∀j u,d.2.2[j]?=some u->w.cell? ⟨d.1,d.2.1+j,none⟩=some u
theorem ld_at(hG:GOk E n0 w0)(N:IV n0 w0 ρ nx h w){base:Nat}{V:Lds}(J:Zcz E base V h=true){x:Nat×Nat×List Cl}(W:x∈V):
 x.1<base/\x.2.2.all fcl=true/\∃b c m,ρ x.1=some (b,c)/\LR ρ x.2.2 m/\∀j u,m[j]?=some u->w.cell? ⟨b,x.2.1+j,none⟩=some u:=by
 unfold Zcz at J;have U:=List.all_eq_true.1 J x W;simp only[Bool.and_eq_true,decide_eq_true_eq] at U;obtain⟨⟨h2,h3⟩,O⟩:=U;have C:=O;unfold Zcw at C;simp only at C;split at C
 ·rename_i L ty sz row D
  obtain⟨b,c,I,_⟩:=N.ob _ (Zbq D);obtain⟨b2,o2,m,y,Y,Z,q⟩:=Zeo (x:=.c (.p x.1 x.2.1)) (X:=.pointer (some ⟨b,x.2.1,none⟩)) hG N ⟨b,c,I,rfl⟩ O;injection y with y
  injection y with y
  injection y with y e3
  subst y e3;exact⟨h2,h3,b,c,m,I,Z,q⟩
 ·cases C
theorem Zns(hG:GOk E n0 w0)(j:IV n0 w0 ρ nx h w){base:Nat}:∀{q:Lds},Zcz E base q h=true->∃D,PW (LdR ρ) q D/\SS n0 w0 D w
 |[],_=>⟨[],trivial,j.low,λd hd=>by cases hd⟩
 |x::q,y=>by
  obtain⟨N,L,b,c,m,J,I,C⟩:=ld_at hG j y (List.mem_cons_self ..);have u:Zcz E base q h=true:=by
   unfold Zcz at*;simp only[List.all_cons,Bool.and_eq_true] at y⊢;exact y.2
  obtain⟨D,d1,d2⟩:=Zns hG j u;refine⟨(b,x.2.1,m)::D,⟨⟨⟨c,J⟩,rfl,I⟩,d1⟩,j.low,λd hd=>?_⟩;rcases List.mem_cons.1 hd with rfl|hd
  ·exact C
  ·exact d2.2 d hd
theorem Znr(hG:GOk E n0 w0){O:Rho}(I:IV n0 w0 ρ nx h w){base:Nat}(q:O.le ρ):∀{J:Lds} {D:List (Nat×Nat×List Value)},Zcz E base J h=true->PW (LdR O) J D->SS n0 w0 D w
 |[],[],_,_=>⟨I.low,λd hd=>by cases hd⟩
 |x::J,d::D,N,V=>by
  obtain⟨h1,Z,b,c,m,Y,X,W⟩:=ld_at hG I N (List.mem_cons_self ..);have L:Zcz E base J h=true:=by
   unfold Zcz at*;simp only[List.all_cons,Bool.and_eq_true] at N⊢;exact N.2
  obtain⟨⟨c0,g1⟩,g2,g3⟩:=V.1;have C:=q _ _ g1;rw[Y] at C;injection C with C
  injection C with C g5
  have g6:=LR.fun' Z (g3.mono (VR.mono q)) X;obtain⟨_,k2⟩:=Znr hG I q L V.2;refine⟨I.low,λd' y=>?_⟩;rcases List.mem_cons.1 y with rfl|y
  ·intro j u U;rw[g6] at U;rw[<-C,g2];exact W j u U
  ·exact k2 d' y
 |[],_::_,_,h=>h.elim
 |_::_,[],_,h=>h.elim
theorem ZvX(N:EOk P E n0 w0){ops:Array Oper}{base:Nat}{ρ0:Rho}{LD:Lds}{D:List (Nat×Nat×List Value)}(hD:PW (LdR ρ0) LD D)(ab:ρ0.le ρ)(ht:TR ρ t a){l:Lds}{q:Bool}(y:quiet E q ops.toList base t h o=some (v,l))(hl:∀x∈l,x∈LD)(hI:IV n0 w0 ρ nx h w):
 ∃V,AR ρ v V/\YieldsIf P ops (SS n0 w0 D) o V a:=by
 unfold quiet at y;rw[Zkr ht] at y;split at y
 ·rename_i Y
  split at y
  ·rename_i u hp
   simp only[Option.some.injEq,Prod.mk.injEq] at y;obtain⟨rfl,rfl⟩:=y;obtain⟨V,hV,Z⟩:=Zoo N.ty (λt ti h1 I=>(N.eq t ti h1 I).1) ht hp;exact⟨V,hV,.inl ⟨Y,λw _=>Z w⟩⟩
  ·split at y
   case isFalse=>cases y
   unfold ldOf at y;split at y
   case h_2=>cases y
   rename_i ty x ah
   obtain⟨ti,h1,y⟩:=Zc y;have J:execOp a.eval o=(do let v<-Instr.loadAt ty (a.eval x);pure (.value v)):=by
    unfold execOp;simp only[ah]
   have hT:=N.ty _ _ h1;split at y
   ·rename_i i C hx
    split at y
    case isFalse=>cases y
    obtain⟨L,I,y⟩:=Zc y;split at y
    case isFalse=>cases y
    obtain⟨u,h3,y⟩:=Zc y;simp only[Option.some.injEq,Prod.mk.injEq] at y;obtain⟨rfl,rfl⟩:=y;obtain⟨d,hd,⟨c,g1⟩,g2,g3⟩:=PW.mem hD (hl _ (List.mem_cons_self ..));obtain⟨b,c',hb,hX⟩:∃b c,ρ i=some (b,c)/\a.eval x=.pointer (some ⟨b,C,none⟩):=Zl ht hx;have W:=ab _ _ g1;simp only at W;rw[hb] at W;injection W with W
    injection W with W g5
    have aa:L.length=ti.size:=by
     obtain⟨b2,o2,m,e2,ai,O,_⟩:=Zeo (x:=.c (.p i C)) (X:=.pointer (some ⟨b,C,none⟩)) N.gl hI ⟨b,c',hb,rfl⟩ I;rw[O.len,ai]
    have g6:=g3.mono (VR.mono ab);obtain⟨V,hV,Z⟩:=ZhL (P:=P) hT h3 g6 (by rw[<-g6.len];exact aa) b C;refine⟨V,hV,.inl ⟨Y,λw hS=>?_⟩⟩;rw[J,hX];simp only[Sem.run_bind,Z w (λj u U=>by
     have:=hS.2 d hd j u U;rw[<-W,g2] at this;exact this),Result.andThen_ok,Sem.run_pure]
   ·rename_i g C hx
    obtain⟨L,I,y⟩:=Zc y;obtain⟨u,h3,y⟩:=Zc y;simp only[Option.some.injEq,Prod.mk.injEq] at y;obtain⟨rfl,rfl⟩:=y;have hX:a.eval x=.pointer (some ⟨g,C,none⟩):=Zl ht hx;unfold Zcw at I;simp only at I;obtain⟨GL,k1,I⟩:=Zc I;split at I
    case isFalse=>cases I
    rename_i hn
    injection I with I;subst I
    obtain⟨hg,m,k2,k3⟩:=N.gl _ _ k1;have O:=((k3 ρ).drop C).take ti.size;obtain⟨V,hV,Z⟩:=ZhL (P:=P) hT h3 O (by rw[<-O.len];exact hn) g C;refine⟨V,hV,.inl ⟨Y,λw hS=>?_⟩⟩;rw[J,hX];simp only[Sem.run_bind,Z w (λj u U=>by
     rw[hS.1.cell (p:=⟨g,C+j,none⟩) hg];refine k2 (C+j) u ?_;rw[List.getElem?_take] at U;split at U
     ·rw[List.getElem?_drop] at U;exact U
     ·cases U),Result.andThen_ok,Sem.run_pure]
   ·cases y
 ·rename_i Y
  simp only[Option.some.injEq,Prod.mk.injEq] at y;obtain⟨rfl,rfl⟩:=y;exact⟨undef,Zfx ρ,.inr ⟨by simpa using Y,rfl⟩⟩
theorem ZhD{q:Bool}{ops:Array Oper}{y:Array Bool}{base:Nat}:∀{rs:List Nat} {i:Nat} {o:Oper} {v:AV} {l:Lds},pick E q ops.toList y base t h rs=some (i,o,v,l)->
 i∈rs/\ops[i]?=some o/\quiet E q ops.toList base t h o=some (v,l)/\Region.free .any ops y i=true
 |[],i,o,v,l,C=>by simp[pick] at C
 |j::rs,i,o,v,l,C=>by
  simp only[pick] at C;split at C
  ·rename_i O J
   split at C
   ·rename_i u m L
    split at C
    ·rename_i N
     simp only[Option.some.injEq,Prod.mk.injEq] at C;obtain⟨rfl,rfl,rfl,rfl⟩:=C;rw[ZbF,Array.getElem?_toList] at J;exact⟨List.mem_cons_self ..,J,L,by simpa using N⟩
    ·obtain⟨I,D⟩:=ZhD C;exact⟨List.mem_cons_of_mem _ I,D⟩
   ·obtain⟨I,D⟩:=ZhD C;exact⟨List.mem_cons_of_mem _ I,D⟩
  ·obtain⟨I,D⟩:=ZhD C;exact⟨List.mem_cons_of_mem _ I,D⟩
end
end Ev
namespace Ev
section
variable {P:Program} {E:Env} {n0:Nat} {w0 w:World} {ρ:Rho} {nx fr:Nat} {h:Hp} {t:List AV} {a:Act} {o:Oper} {v:AV} {cf:Zbz}
theorem Zkc(u:EOk P E n0 w0)(q:Zee P n0 w0 cf){ops:Array Oper}(y:TR ρ t a)(C:IV n0 w0 ρ nx h w)(I:fr<nx)(hn:ρ fr=none){nx':Nat}{h':Hp}(hs:stpW E cf ops.toList fr t nx h o=some (v,nx',h')){i:Nat}(D:ops[i]?=some o){K:Act->World->Prop}{Q:Exit->Act->World->Prop}
 (hK:∀ρ' V w',AR ρ' v V->IV n0 w0 ρ' nx' h' w'->ρ.le ρ'->nx<=nx'->(∀i,i<nx->i≠fr->ρ' i=ρ i)->K (a.put o.dst V) w'):wpOp P ops Q i K a w:=by
 unfold stpW at hs;rw[Zkr y] at hs;unfold wpOp;simp only[D];split at hs
 ·rename_i j
  rw[if_pos j];exact .inl (Zpf u q y C I hn hs hK)
 ·rename_i j
  rw[if_neg j];simp only[Option.some.injEq,Prod.mk.injEq] at hs;obtain⟨rfl,rfl,rfl⟩:=hs;exact hK ρ undef w (Zfx ρ) C ρ.le_refl NL (λ_ _ _=>rfl)
theorem Zm0{l:Array Bool}{i k:Nat}(h:(l.setIfInBounds i true).getD k true=false):l.getD k true=false/\k≠i:=by
 by_cases j:k=i
 ·subst j
  exfalso
  by_cases hs:k<l.size
  ·simp[hs] at h
  ·simp[hs] at h
 ·refine⟨?_,j⟩;simp only[Array.getD_eq_getD_getElem?,Array.getElem?_setIfInBounds] at h⊢;rw[if_neg (λe=>j e.symm)] at h;exact h
theorem getD_lt{l:Array Bool}{k:Nat}(h:l.getD k true=false):k<l.size:=by
 refine Classical.byContradiction λhn=>?_;simp[Array.getD_eq_getD_getElem?,Array.getElem?_eq_none (Nat.le_of_not_lt hn)] at h
structure PI (n0:Nat)(w0:World)(base:Nat)(ρ0:Rho)(D:List (Nat×Nat×List Value))(listed:Array Bool)(t:List AV)(nx:Nat)(h:Hp)(ρ:Rho)(a:Act)(w:World):Prop where
 iv:IV n0 w0 ρ nx h w
 room:base+listed.size<=nx
 ag:∀i,i<base->ρ i=ρ0 i
 unl:∀i,listed.getD i true=false->ρ (base+i)=none
 tr:TR ρ t a
 df:a.defers=[]
 le:ρ0.le ρ
 ss:SS n0 w0 D w
theorem PI.step(hG:GOk E n0 w0){base:Nat}{J:Rho}{O:Lds}{D:List (Nat×Nat×List Value)}{q:Array Bool}(Z:PW (LdR J) O D)(u:PI n0 w0 base J D q t nx h ρ a w){i:Nat}(aa:q.getD i true=false)
 {ρ':Rho} {V:Value} {w':World} {nx':Nat} {h':Hp} (Y:AR ρ' v V) (I:IV n0 w0 ρ' nx' h' w') (y:ρ.le ρ') (U:nx<=nx') (C:∀j,j<nx->j≠base+i->ρ' j=ρ j) (L:Zcz E base O h'=true):
 PI n0 w0 base J D (q.setIfInBounds i true) (Zdd o.dst v t) nx' h' ρ' (a.put o.dst V) w':=
 ⟨I,by have:=u.room;simp;omega,λj X=>(C j (by have:=u.room;omega) (by omega)).trans (u.ag j X),λk W=>by
  obtain⟨N,h2⟩:=Zm0 W;rw[C (base+k) (by have:=u.room;have:=getD_lt N;omega) (by omega)];exact u.unl k N,ZhH (u.tr.mono y) Y,by rw[ZhI];exact u.df,Rho.le_trans u.le y,Znr hG I (Rho.le_trans u.le y) L Z⟩
theorem PI.take{base:Nat}{u:Rho}{D:List (Nat×Nat×List Value)}{j:Array Bool}(q:PI n0 w0 base u D j t nx h ρ a w){i:Nat}{V:Value}(C:AR ρ v V):
 PI n0 w0 base u D (j.setIfInBounds i true) (Zdd o.dst v t) nx h ρ (a.put o.dst V) w:=
 ⟨q.iv,by have:=q.room;simpa using this,q.ag,λk y=>q.unl k (Zm0 y).1,ZhH q.tr C,by rw[ZhI];exact q.df,q.le,q.ss⟩
theorem ZvN{q:Bool}(L:EOk P E n0 w0)(ae:Zee P n0 w0 cf)(ops:Array Oper)(ak:Region.noSelect ops=true){base:Nat}{ρ0:Rho}{LD:Lds}{D:List (Nat×Nat×List Value)}(hD:PW (LdR ρ0) LD D):
 ∀(n:Nat) (u:Array Bool) (t:List AV) (nx:Nat) (h:Hp) (r:RO),Zd2 E q cf ops.toList base n u t nx h=some r->(∀x∈r.ld,x∈LD)->(∀g∈r.hs,Zcz E base LD g=true)->
 ∀(ρ:Rho) (a:Act) (w:World),PI n0 w0 base ρ0 D u t nx h ρ a w->wpAnyH P .any ops (SP n0 w0 ρ0 base .nrm r.t r.nx r.h) (SS n0 w0 D) n u a w:=by
 have done:∀(t:List AV) (nx:Nat) (h:Hp) (u:Array Bool) (ρ:Rho) (a:Act) (w:World),PI n0 w0 base ρ0 D u t nx h ρ a w->SP n0 w0 ρ0 base .nrm t nx h .normal a w:=
  λt nx h u ρ a w C=>⟨rfl,C.df,ρ,C.iv,C.tr,by have:=C.room;omega,C.ag⟩
 intro n;induction n with
 |zero=>
  intro u t nx h r y hl Z ρ a w C;simp only[Zd2,Array.toArray_toList] at y;split at y
  ·rename_i ab
   injection y with y;subst y
   exact wpAnyH_done ab (done _ _ _ _ _ _ _ C) 0
  ·cases y
 |succ n ih=>
  intro u t nx h r y hl Z ρ a w C;simp only[Zd2,Array.toArray_toList] at y;split at y
  ·rename_i ab
   injection y with y;subst y
   exact wpAnyH_done ab (done _ _ _ _ _ _ _ C) _
  ·rename_i rs aE
   split at y
   ·rename_i i o v l ay
    obtain⟨h1,h2,h3,h4⟩:=ZhD ay;obtain⟨r',h5,y⟩:=Zc y;injection y with y;subst y
    obtain⟨V,hV,hy⟩:=ZvX L (ops:=ops) hD C.le C.tr h3 (λx hx=>hl x (List.mem_append_left _ hx)) C.iv;exact wpAnyH_take h2 ak h4 (by simpa using h1) (λc a' w' hh=>SP.nopanic c _ _ _ hh) hy C.ss
     (ih _ _ _ _ r' h5 (λx hx=>hl x (List.mem_append_right _ hx)) Z ρ _ w (C.take hV))
   ·split at y
    ·rename_i i N
     obtain⟨o,h1,y⟩:=Zc y;obtain⟨s,h2,y⟩:=Zc y;obtain⟨r',h3,y⟩:=Zc y;injection y with y;subst y
     rw[ZbF,Array.getElem?_toList] at h1;refine wpAnyH_all N (by simp) λj hj=>?_;have ac:j=i:=by simpa using hj
     subst ac;have I:u.getD j true=false:=(mem_ready.1 (by rw[N];simp)).1;refine Zkc L ae (fr:=base+j) (nx':=s.2.1) (h':=s.2.2) (v:=s.1) C.tr C.iv (by have:=C.room;have:=getD_lt I;omega) (C.unl j I) h2 h1 (λρ' V w' hV Y U O X=>?_);have J:=PI.step (o:=o) L.gl hD C I hV Y U O X (Z _ (List.mem_cons_self ..));exact⟨J.ss,ih _ _ _ _ r' h3 hl (λg W=>Z g (List.mem_cons_of_mem _ W)) ρ' _ w' J⟩
    ·rename_i i k N
     obtain⟨o,h1,y⟩:=Zc y;obtain⟨s,h2,y⟩:=Zc y;obtain⟨r1,h3,y⟩:=Zc y;obtain⟨o2,h4,y⟩:=Zc y;obtain⟨s2,h5,y⟩:=Zc y;obtain⟨r2,h6,y⟩:=Zc y;split at y
     ·rename_i ad
      injection y with y;subst y
      rw[ZbF,Array.getElem?_toList] at h1 h4;refine wpAnyH_all N (by simp) λj hj=>?_;have ac:j=i\/j=k:=by simpa using hj
      have I:u.getD j true=false:=(mem_ready.1 (by rw[N];exact hj)).1;rcases ac with rfl|rfl
      ·refine Zkc L ae (fr:=base+j) (nx':=s.2.1) (h':=s.2.2) (v:=s.1) C.tr C.iv (by have:=C.room;have:=getD_lt I;omega) (C.unl j I) h2 h1 (λρ' V w' hV Y U O X=>?_);have J:=PI.step (o:=o) L.gl hD C I hV Y U O X (Z _ (List.mem_cons_self ..));exact⟨J.ss,ih _ _ _ _ r1 h3 (λx hx=>hl x (List.mem_append_left _ hx)) (λg W=>Z g (List.mem_cons_of_mem _ (List.mem_cons_of_mem _ (List.mem_append_left _ W)))) ρ' _ w' J⟩
      ·refine Zkc L ae (fr:=base+j) (nx':=s2.2.1) (h':=s2.2.2) (v:=s2.1) C.tr C.iv (by have:=C.room;have:=getD_lt I;omega) (C.unl j I) h5 h4 (λρ' V w' hV Y U O X=>?_);have J:=PI.step (o:=o2) L.gl hD C I hV Y U O X (Z _ (List.mem_cons_of_mem _ (List.mem_cons_self ..)));have hfin:=ih _ _ _ _ r2 h6 (λx hx=>hl x (List.mem_append_right _ hx)) (λg W=>Z g (List.mem_cons_of_mem _ (List.mem_cons_of_mem _ (List.mem_append_right _ W)))) ρ' _ w' J;rw[<-ad.1,<-ad.2.1,<-ad.2.2] at hfin;exact⟨J.ss,hfin⟩
     ·cases y
    ·cases y
theorem ZoH{q:Bool}(y:EOk P E n0 w0)(J:Zee P n0 w0 cf)(id:Nat)(ops:Array Oper){nx':Nat}{N:List AV}{h':Hp}(u:regQ E q cf ops.toList t nx h=some (N,nx',h'))(V:TR ρ t a)(L:IV n0 w0 ρ nx h w)(hd:a.defers=[]):
 (Code.region id ops true).wp P (SP n0 w0 ρ nx .nrm N nx' h') a w:=by
 unfold regQ at u;rw[Array.toArray_toList] at u;split at u
 case isFalse=>cases u
 rename_i C
 obtain⟨r,O,u⟩:=Zc u;split at u
 case isFalse=>cases u
 rename_i I
 simp only[Option.some.injEq,Prod.mk.injEq] at u;obtain⟨rfl,rfl,rfl⟩:=u;have j:∀g∈h::r.hs,Zcz E nx r.ld g=true:=List.all_eq_true.1 I;obtain⟨D,d1,d2⟩:=Zns y.gl L (j h (List.mem_cons_self ..));have d3:SS n0 w0 D w.drew:=⟨d2.1.drew,d2.2⟩
 refine wp_region_held_drew y.mixed d3 (λ_=>?_);rw[Array.length_toList] at O;refine ZvN y J ops C d1 ops.size (Array.replicate ops.size false) t (nx+ops.size) h r O (λx U=>U) (λg W=>j g (List.mem_cons_of_mem _ W)) ρ a w.drew ⟨(L.drew).next _,by simp,λ_ _=>rfl,λi _=>L.fresh _ (by omega),V,hd,ρ.le_refl,d3⟩
theorem ZvZ(u:EOk P E n0 w0)(q:Zee P n0 w0 cf)(id:Nat)(ops:Array Oper){nx':Nat}{y:List AV}{h':Hp}(j:regD E cf ops.toList t nx h=some (y,nx',h'))(C:TR ρ t a)(D:IV n0 w0 ρ nx h w)(hd:a.defers=[]):
 (Code.region id ops true).wp P (SP n0 w0 ρ nx .nrm y nx' h') a w:=by
 unfold regD at j;split at j
 ·rename_i r I
  injection j with j
  subst j;exact ZoH u q id ops I C D hd
 ·exact ZoH u q id ops j C D hd
end
end Ev
