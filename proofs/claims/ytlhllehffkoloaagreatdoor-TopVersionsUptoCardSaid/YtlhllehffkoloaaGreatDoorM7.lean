/- Lemmas for TopVersions; conditions: as each says. -/
import Derived.Tactics
import Derived.Test.YtlhllehffkoloaaGreatDoorM6
set_option linter.unusedVariables false
set_option linter.unusedSimpArgs false
set_option maxRecDepth 100000
set_option maxHeartbeats 200000
namespace Go.Proofs.YtlhllehffkoloaaGreatDoor
open Go Go.RowKit
namespace Ev
section
variable {P:Program} {E:Env} {n0:Nat} {w0 w:World} {ρ:Rho} {nx fr:Nat} {h:Hp} {t:List AV} {a:Act} {o:Oper} {v:AV}
theorem bs_beq (x:List UInt8):(Bs x==Bs x)=true:=by
 show((Bs x).data==(Bs x).data)=true
 simp
theorem Zlr {kt:Nat} {tk:TI} (hT:TyOk P kt tk){q:Bool} (hK:q=true→Zdm P kt tk∨∀n e,tk.k≠ .ar n e){k:A0} {K:Value} (hk:A0R ρ k K)(hl:Zay tk q k=true)(em:Bool)(w:World):(Instr.checkKey em 10000 kt K).run P w= .ok () w:=by
 by_cases hqq:q=true
 · rcases hK hqq with h|h
   · exact Zh9 hT (fun _=>h) hk hl em w
   · have hl2:Zay tk false k=true:=by
      unfold Zay at*;split at hl
      · exact hl
      · rename_i n e l hkk;exact absurd hkk (h n e)
      · cases hl
     exact Zh9 hT (fun h=>by cases h) hk hl2 em w
 · exact Zh9 hT (fun h=>absurd h hqq) hk hl em w
theorem Zhh:∀{z l:List Cl} {m m':List Value},shp z l=true→LR ρ l m→LR ρ l m'→m=m'∧∀n:Nat,((m.zip m).all fun x=>Instr.sameBits n x.1 x.2)=true
 |[],[],[],[],_,_,_=>⟨rfl,fun _=>rfl⟩
 | .b _::z,.b x::l,y::m,y'::m',hs,h,h'=>by
  obtain⟨e1,e2⟩:=Zhh (z:=z) (by simpa [shp] using hs) h.2 h'.2;have f1:y= .bool x:=h.1;have f2:y'= .bool x:=h'.1;subst f1 f2 e1;exact⟨rfl,fun n=>by simp only [List.zip_cons_cons,List.all_cons,e2,Bool.and_true];cases n<;>simp [Instr.sameBits]⟩
 | .i _ _::z,.i k x::l,y::m,y'::m',hs,h,h'=>by
  obtain⟨e1,e2⟩:=Zhh (z:=z) (by simp [shp] at hs;exact hs.2) h.2 h'.2;have f1:y= .int k x:=h.1;have f2:y'= .int k x:=h'.1;subst f1 f2 e1;exact⟨rfl,fun n=>by simp only [List.zip_cons_cons,List.all_cons,e2,Bool.and_true];cases n<;>simp [Instr.sameBits]⟩
 | .s _::z,.s x::l,y::m,y'::m',hs,h,h'=>by
  obtain⟨e1,e2⟩:=Zhh (z:=z) (by simpa [shp] using hs) h.2 h'.2;have f1:y= .string (Bs x):=h.1;have f2:y'= .string (Bs x):=h'.1;subst f1 f2 e1;exact⟨rfl,fun n=>by simp only [List.zip_cons_cons,List.all_cons,e2,Bool.and_true];cases n<;>exact bs_beq x⟩
 |[],[],_::_,_,_,h,_=>h.elim
 |[],[],[],_::_,_,_,h=>h.elim
 |[],_::_,_,_,hs,_,_=>by simp [shp] at hs
 |_::_,[],_,_,hs,_,_=>by simp [shp] at hs
 |_,_::_,[],_,_,h,_=>h.elim
 |_,_::_,_::_,[],_,_,h=>h.elim
theorem A0R.same {tk:TI} {q:Bool} {k:A0} {K K':Value} (hl:Zay tk q k=true)(h:A0R ρ k K)(h':A0R ρ k K'):K=K'∧Instr.sameBits 10000 K K'=true:=by
 unfold Zay at hl;split at hl
 · rename_i kk kj n hk
   have e1:K= .int kj n:=h;have e2:K'= .int kj n:=h';subst e1 e2;exact⟨rfl,by simp [Instr.sameBits]⟩
 · rename_i n e l hk
   simp only [Bool.and_eq_true] at hl;obtain⟨m,rfl,hm⟩:=h;obtain⟨m',rfl,hm'⟩:=h';obtain⟨e1,e2⟩:=Zhh hl.2 hm hm';subst e1;have key:∀d,Instr.sameBits (d+1) (.agg m.toArray) (.agg m.toArray)=true:=fun d=>by
    simp only [Instr.sameBits,beq_self_eq_true,Bool.true_and];exact e2 d
   exact⟨rfl,key 9999⟩
 · cases hl
theorem mk_zero {te:TI} {e:Nat} (hT:TyOk P e te){zv:AV} (hm:mk te te.zero=some zv):∃z,(∀w,(zeroValue e).run P w= .ok z w)∧AR ρ zv z:=by
 obtain⟨z,z1,z2,z3,z4⟩:=hT.zero;obtain⟨m1,m2⟩:=ZiW hm (z2 ρ);refine⟨z,z1,?_⟩;cases ha:te.k.agg with
 |true=>
  obtain⟨m,rfl⟩:=z3 ha;have:=m1 ha;simpa [Value.cells] using this
 |false=>
  obtain⟨x,h1,h2⟩:=m2 ha;have hz:=z4 ha;have:z.cells=#[z]:=by cases z<;>first|rfl|exact absurd rfl (hz _)
  rw [this] at h1;simp at h1;rw [h1];exact h2
theorem ZgW {b:Nat} {L:List MapEntry} {ck:Nat} (h:w.heap[b]? =some (.map L.toArray ck)):(getObj b).run P w= .ok (.map L.toArray ck) w:=by
 simp only [getObj,Sem.run,h]
theorem map_set {b:Nat} {L:List MapEntry} {ck:Nat} (h:w.heap[b]? =some (.map L.toArray ck))(ob:Obj):(setObj b ob).run P w= .ok () {w with heap:=w.heap.setIfInBounds b ob}:=by
 simp only [setObj,Sem.run,h]
theorem Zsk (hE:∀t ti,E.ty t=some ti→TyOk P t ti)(hq:∀t ti,E.eqt t=true→E.ty t=some ti→ZcX P t ti∧(∀n e,ti.k= .ar n e→Zdm P t ti))(ht:TR ρ t a)(hI:IV n0 w0 ρ nx h w){ty:Nat} {x k:Operand} {ok:Bool} (ho:o.op= .lookup ty x k ok){h':Hp} (hh:eff E fr t h o.op=some (v,h')):
 ZaL P n0 w0 ρ nx fr a o v h' w:=by
 rw [ho] at hh;simp only [eff,ZlS] at hh;obtain⟨ti,h1,hh⟩:=Zb hh;obtain⟨d,hd1,hd2⟩:=(hE _ _ h1).und;split at hh
 case h_2=>cases hh
 rename_i kt e i hk hx
 rw [hk] at hd2;cases d<;>first|exact hd2.elim|skip
 obtain⟨tk,h2,hh⟩:=Zb hh;obtain⟨te,h3,hh⟩:=Zb hh;obtain⟨kv,h4,hh⟩:=Zb hh;obtain⟨kc,h5,hh⟩:=Zb hh;obtain⟨zv,h6,hh⟩:=Zb hh;obtain⟨z,h7,hh⟩:=Zb hh;split at hh
 case h_2=>cases hh
 rename_i es hlk
 split at hh
 case isFalse=>cases hh
 rename_i hs
 simp only [Option.some.injEq,Prod.mk.injEq] at hh;obtain⟨rfl,rfl⟩:=hh;obtain⟨rfl,rfl⟩:=hd2;obtain⟨b,c,q1,L,ck,q2,q3⟩:=hI.ob _ (Zbd hlk);obtain⟨b',c',q4,hX⟩:∃b c,ρ i=some (b,c)∧a.eval x= .map (some b):=Zj ht hx;simp only at q1;rw [q1] at q4;injection q4 with q4
 injection q4 with q4 q5
 subst q4;have hK:=AR.a0 (Zj ht h4) h5;unfold Zhe at hs;simp only [Bool.and_eq_true] at hs;have hkt:∀(hqq:E.eqt kt=true),Zdm P kt tk∨∀n e,tk.k≠ .ar n e:=fun hqq=>by
  by_cases har:∃n e,tk.k= .ar n e
  · obtain⟨n,e,har⟩:=har;exact .inl ((hq _ _ hqq h2).2 n e har)
  · exact .inr fun n e h=>har ⟨n,e,h⟩
 have hck:=fun(em:Bool) w=>Zlr (P:=P) (hE _ _ h2) hkt hK hs.1 em w;obtain⟨r,r1,r2⟩:=Zmb (hE _ _ h2) (fun hqq=>(hq _ _ hqq h2).1) hK hs.1 es L q3 hs.2;obtain⟨zV,z1,z2⟩:=mk_zero (ρ:=ρ) (hE _ _ h3) h6;have hz:=AR.a0 z2 h7;have hrun:∃V,A0R ρ ((ZbP kc es).getD z) V∧(Instr.lookup ty (a.eval x) (a.eval k) ok).run P w= .ok (if ok then .tuple #[V,.bool (ZbP kc es).isSome] else V) w:=by
  unfold Pr at r2;cases hf:ZbP kc es with
  |none=>
   rw [hf] at r2;refine⟨zV,hz,?_⟩;simp only [Instr.lookup,Sem.run_bind,run_und hd1,Result.andThen_ok,hX,ZgW q2,Sem.run_pure,hck,r1,r2.1,z1];rfl
  |some y=>
   rw [hf] at r2;obtain⟨j,V,s1,s2,_⟩:=r2;refine⟨V,s2,?_⟩;simp only [Instr.lookup,Sem.run_bind,run_und hd1,Result.andThen_ok,hX,ZgW q2,Sem.run_pure,hck,r1,s1];rfl
 obtain⟨V,hV,hr⟩:=hrun;have hexec:execOp a.eval o=(do let v←Instr.lookup ty (a.eval x) (a.eval k) ok;pure (.value v)):=by
  unfold execOp;simp only [ho]
 cases ok with
 |true=>exact Zcn hexec ⟨[V,.bool (ZbP kc es).isSome],rfl,hV,rfl,trivial⟩ hr hI
 |false=>exact Zcn hexec hV.av hr hI
theorem Zsn (hE:∀t ti,E.ty t=some ti→TyOk P t ti)(hq:∀t ti,E.eqt t=true→E.ty t=some ti→ZcX P t ti∧(∀n e,ti.k= .ar n e→Zdm P t ti))(ht:TR ρ t a)(hI:IV n0 w0 ρ nx h w){ty:Nat} {x k y:Operand} (ho:o.op= .mapUpdate ty x k y){h':Hp} (hh:eff E fr t h o.op=some (v,h')):
 ZaL P n0 w0 ρ nx fr a o v h' w:=by
 rw [ho] at hh;simp only [eff,ZlV] at hh;obtain⟨ti,h1,hh⟩:=Zb hh;obtain⟨d,hd1,hd2⟩:=(hE _ _ h1).und;split at hh
 case h_2=>cases hh
 rename_i kt e i hk hx
 rw [hk] at hd2;cases d<;>first|exact hd2.elim|skip
 obtain⟨tk,h2,hh⟩:=Zb hh;obtain⟨kv,h4,hh⟩:=Zb hh;obtain⟨kc,h5,hh⟩:=Zb hh;obtain⟨vv,h6,hh⟩:=Zb hh;obtain⟨vc,h7,hh⟩:=Zb hh;split at hh
 case h_2=>cases hh
 rename_i es hlk
 split at hh
 case isFalse=>cases hh
 rename_i hs
 simp only [Option.some.injEq,Prod.mk.injEq] at hh;obtain⟨rfl,rfl⟩:=hh;obtain⟨rfl,rfl⟩:=hd2;obtain⟨b,c,q1,L,ck,q2,q3⟩:=hI.ob _ (Zbd hlk);obtain⟨b',c',q4,hX⟩:∃b c,ρ i=some (b,c)∧a.eval x= .map (some b):=Zj ht hx;simp only at q1;rw [q1] at q4;injection q4 with q4
 injection q4 with q4 q5
 subst q4;have hK:=AR.a0 (Zj ht h4) h5;have hV:=AR.a0 (Zj ht h6) h7;unfold Zhe at hs;simp only [Bool.and_eq_true] at hs;have hkt:∀(hqq:E.eqt kt=true),Zdm P kt tk∨∀n e,tk.k≠ .ar n e:=fun hqq=>by
  by_cases har:∃n e,tk.k= .ar n e
  · obtain⟨n,e,har⟩:=har;exact .inl ((hq _ _ hqq h2).2 n e har)
  · exact .inr fun n e h=>har ⟨n,e,h⟩
 have hck:=fun(em:Bool) w=>Zlr (P:=P) (hE _ _ h2) hkt hK hs.1 em w;obtain⟨r,r1,r2⟩:=Zmb (hE _ _ h2) (fun hqq=>(hq _ _ hqq h2).1) hK hs.1 es L q3 hs.2;have hrun:∃(L':List MapEntry) (ck':Nat),PW (MR ρ) (Zdf kc vc es) L'∧(Instr.mapUpdate ty (a.eval x) (a.eval k) (a.eval y)).run P w= .ok () {w with heap:=w.heap.setIfInBounds b (.map L'.toArray ck')}:=by
  unfold Pr at r2;cases hf:ZbP kc es with
  |none=>
   rw [hf] at r2;refine⟨_,ck+1,r2.2 vc (a.eval y) ck hV,?_⟩;simp only [Instr.mapUpdate,Sem.run_bind,run_und hd1,Result.andThen_ok,hX,ZgW q2,hck,r1,r2.1,map_set q2];congr 4
   apply Array.ext'
   simp
  |some u=>
   rw [hf] at r2;obtain⟨j,V,s1,s2,⟨e',s3,s3'⟩,s4⟩:=r2;obtain⟨k1,k2⟩:=A0R.same hs.1 s3' hK;refine⟨_,ck,s4 vc (a.eval y) hV,?_⟩;rw [Nat.zero_add] at s1;have hkeep:(Instr.keyThatStays (((L.toArray[j]?).map (·.key)).getD (a.eval k)) (a.eval k)).run P w= .ok (a.eval k) w:=by
    have:((L.toArray[j]?).map (·.key)).getD (a.eval k)=e'.key:=by simp [s3]
    rw [this];simp [Instr.keyThatStays,k2]
   simp only [Instr.mapUpdate,Sem.run_bind,run_und hd1,Result.andThen_ok,hX,ZgW q2,hck,r1,s1,hkeep,map_set q2];congr 4
   apply Array.ext'
   simp
 obtain⟨L',ck',p1,p2⟩:=hrun;refine⟨ρ,{w with heap:=w.heap.setIfInBounds b (.map L'.toArray ck')},undef,Zfa ρ,.inr ⟨rfl,?_⟩,
  hI.turn (x:= .mp (Zdf kc vc es)) q1 ⟨_,Zbd hlk⟩ rfl rfl rfl (by simp) (fun k hk=>by simp only [Array.getElem?_setIfInBounds];rw [if_neg (fun e=>hk e.symm)]) ⟨L',ck',?_,p1⟩,ρ.le_refl,fun _ _=>rfl⟩
 · unfold execOp;simp only [ho,Sem.run_bind,p2,Result.andThen_ok,Sem.run_pure]
 · show(w.heap.setIfInBounds b _)[b]? =_
   have hb:=(Array.getElem?_eq_some_iff.1 q2).1;simp [hb]
theorem Zsq (hE:∀t ti,E.ty t=some ti→TyOk P t ti)(ht:TR ρ t a)(hI:IV n0 w0 ρ nx h w){ty:Nat} {x:Operand} {lo hi mx:Option Operand} (ho:o.op= .slice ty x lo hi mx){h':Hp} (hh:eff E fr t h o.op=some (v,h')):
 ZaL P n0 w0 ρ nx fr a o v h' w:=by
 rw [ho] at hh;cases mx with
 |some q=>simp [eff] at hh
 |none=>
 simp only [eff,ZlX] at hh;obtain⟨ti,h1,hh⟩:=Zb hh;obtain⟨d,hd1,hd2⟩:=(hE _ _ h1).und;split at hh
 case h_2=>cases hh
 rename_i n e i off hk hx
 rw [hk] at hd2;cases d<;>first|exact hd2.elim|skip
 obtain⟨te,h2,hh⟩:=Zb hh;obtain⟨p,h3,hh⟩:=Zb hh;obtain⟨q,h4,hh⟩:=Zb hh;split at hh
 case h_2=>cases hh
 rename_i l tt hlk hsz
 split at hh
 case isFalse=>cases hh
 rename_i hc
 simp only [Option.some.injEq,Prod.mk.injEq] at hh;obtain⟨rfl,rfl⟩:=hh;obtain⟨rfl,rfl⟩:=hd2;obtain⟨b,c,q1,m,rest,fz,q2,q3,q4,q5,_⟩:=hI.ob _ (Zbd hlk);obtain⟨b',c',q6,hX⟩:∃b c,ρ i=some (b,c)∧a.eval x= .pointer (some ⟨b,off,none⟩):=Zj ht hx;simp only at q1;rw [q1] at q6;injection q6 with q6
 injection q6 with q6 q7
 subst q6;have hr:=q4 rfl;subst hr;rw [List.append_nil,Nat.mul_one,←q3.len] at q5;have hb:=fun w=>Zhb (P:=P) (a:=a) (cap:=n) false ht h3 h4 hc.2.1 hc.2.2 w;have hTe:=hE _ _ h2;have hexec:execOp a.eval o=(do let v←Instr.sliceAt ty (a.eval x) (lo.map a.eval) (hi.map a.eval) none;pure (.value v)):=by
  unfold execOp;simp only [ho];rfl
 have hcap:n - p=c - (l.length - (n - p)):=by omega
 by_cases hn:n=p
 · refine Zcn (V:= .slice (some ⟨b,off,none⟩) (q - p) (n - p)) hexec ⟨b,c,off,q1,by omega,fun hh=> ?_,by rw [←hcap]⟩ ?_ hI
   · rcases hh with hh|hh
     · omega
     · omega
   · simp only [Instr.sliceAt,Sem.run_bind,run_und hd1,Result.andThen_ok,hX,Instr.sureAddr,Sem.run_pure,hb,hTe.sizeOf,if_pos hn]
 · refine Zcn (V:= .slice (some ⟨b,off+p,none⟩) (q - p) (n - p)) hexec ⟨b,c,off+p,q1,by omega,fun hh=>rfl,by rw [←hcap]⟩ ?_ hI;simp only [Instr.sliceAt,Sem.run_bind,run_und hd1,Result.andThen_ok,hX,Instr.sureAddr,Sem.run_pure,hb,hTe.sizeOf,if_neg hn,hsz,Nat.mul_one,add_eq]
theorem eff_ok (hE:∀t ti,E.ty t=some ti→TyOk P t ti)(hq:∀t ti,E.eqt t=true→E.ty t=some ti→ZcX P t ti∧(∀n e,ti.k= .ar n e→Zdm P t ti))(hG:GOk E n0 w0)(ht:TR ρ t a)(hI:IV n0 w0 ρ nx h w)(hf:fr<nx)(hn:ρ fr=none){h':Hp} (hh:eff E fr t h o.op=some (v,h')):
 ZaL P n0 w0 ρ nx fr a o v h' w:=by
 cases ho:o.op with
 |alloc e=>exact Zsd hE hI hf hn ho hh
 |box e x=>exact Zsg ht hI hf hn ho hh
 |buildSlice ty n ps=>exact Zsh hE ht hI hf hn ho hh
 |load ty x=>exact Zsj hE hG ht hI ho hh
 |store ty x y=>exact Zsr hE ht hI ho hh
 |makeSlice ty x y=>exact Zsm hE ht hI hf hn ho hh
 |makeMap ty x=>exact Zsl hI hf hn ho hh
 |slice ty x lo hi mx=>exact Zsq hE ht hI ho hh
 |convert s d x=>exact Zsi hE hG ht hI hf hn ho hh
 |range ty x=>exact Zsp hE ht hI hf hn ho hh
 |next x b=>exact Zso ht hI ho hh
 |lookup ty x k ok=>exact Zsk hE hq ht hI ho hh
 |mapUpdate ty x k y=>exact Zsn hE hq ht hI ho hh
 |call c=>
  cases hc:c.callee with
  |builtin b=>
   cases b<;>first|exact Zsf hE hG ht hI hf hn hc ho hh|(rw [ho] at hh;simp [eff,Zgz,hc] at hh)
  |_=>rw [ho] at hh;simp [eff,Zgz,hc] at hh
 |_=>rw [ho] at hh;simp [eff] at hh
end
end Ev
namespace Ev
noncomputable section
inductive Ex where
 |nrm|exit (id:Nat)|ret
 deriving DecidableEq
abbrev R3:=AV×Nat×Hp
abbrev Zbi:=Nat→List AV→Nat→Hp→Option R3
def evs (t:List AV):List Operand→Option (List AV)
 |[]=>some []
 |x::l=>opt (ev t x) fun v=>opt (evs t l) fun r=>some (v::r)
def pAV:List (Nat×Nat)→List AV
 |[]=>[]
 |(i,o)::l=> .c (.p i o)::pAV l
def Zlm (cf:Zbi)(t:List AV)(nx:Nat)(h:Hp):Op→Option R3
 | .call c=>match c.callee with
  | .value f=>match ev t f with
   |some (.c (.fn k fs cs))=>opt (evs t c.args.toList) fun l=>cf k (pAV fs++(l++pAV cs)) nx h
   |_=>none
  |_=>none
 |_=>none
def insH (x:Nat×Ob)(l:Hp):Hp:=List.rec (motive:=fun _=>Hp) [x] (fun y r ih=>cond (Nat.blt x.1 y.1) (y::ih) (x::y::r)) l
def nrmH (h:Hp):Hp:=match h with
 |[]=>[]
 |x::l=>insH x l
def stp (E:Env)(cf:Zbi)(fr:Nat)(t:List AV)(nx:Nat)(h:Hp)(op:Op):Option R3:=
 match pop E t op with
 |some v=>some (v,nx,h)
 |none=>match eff E fr t h op with
  |some (v,h')=>some (v,nx,nrmH h')
  |none=>Zlm cf t nx h op
def ZcP (d:Option Nat)(v:AV)(t:List AV):List AV:=match d with
 |some i=>setN v t i
 |none=>t
def ZfZ (ops:List Oper)(t:List AV)(o:Oper):Bool:=match o.guard with
 |none=>true
 |some (j,y)=>match ZaP ops j with
  |some oj=>match oj.dst with
   |some d=>match ZaP t d with
    |some (.c (.b x))=>x==y
    |_=>false
   |none=>false
  |none=>false
def Zje (E:Env)(cf:Zbi)(ops:List Oper)(o:Oper)(ih:List AV→Nat→Hp→Option (List AV×Nat×Hp))(t:List AV)(nx:Nat)(h:Hp):Option (List AV×Nat×Hp):=
 if ZfZ ops t o then(match stp E cf nx t (nx+1) h o.op with
  |some (v,nx',h')=>ih (ZcP o.dst v t) nx' h'
  |none=>none) else ih (ZcP o.dst (.t []) t) nx h
def regS (E:Env)(cf:Zbi)(ops:List Oper)(l:List Oper):List AV→Nat→Hp→Option (List AV×Nat×Hp):=
 List.rec (motive:=fun _=>List AV→Nat→Hp→Option (List AV×Nat×Hp)) (fun t nx h=>some (t,nx,h)) (fun o _ ih=>Zje E cf ops o ih) l
abbrev Lds:=List (Nat×Nat×List Cl)
def fcl:Cl→Bool
 | .sl _ _ len cut=>len !=0||cut==0
 |_=>true
def ldOf (E:Env)(base:Nat)(t:List AV)(h:Hp):Op→Option (AV×Lds)
 | .load ty x=>opt (E.ty ty) fun ti=>match ev t x with
  |some (.c (.p i o))=>if i<base then opt (Zb5 E h (.c (.p i o)) ti.size) fun l=>if l.all fcl then opt (mk ti l) fun v=>some (v,[(i,o,l)]) else none else none
  |some (.c (.g i o))=>opt (Zb5 E h (.c (.g i o)) ti.size) fun l=>opt (mk ti l) fun v=>some (v,[])
  |_=>none
 |_=>none
def quiet (E:Env)(q:Bool)(ops:List Oper)(base:Nat)(t:List AV)(h:Hp)(o:Oper):Option (AV×Lds):=
 if ZfZ ops t o then match pop E t o.op with
  |some v=>some (v,[])
  |none=>if q then ldOf E base t h o.op else none
 else some (.t [],[])
def pick (E:Env)(q:Bool)(ops:List Oper)(listed:Array Bool)(base:Nat)(t:List AV)(h:Hp):List Nat→Option (Nat×Oper×AV×Lds)
 |[]=>none
 |i::r=>match ZaP ops i with
  |some o=>match quiet E q ops base t h o with
   |some (v,l)=>if Region.free .any ops.toArray listed i then some (i,o,v,l) else pick E q ops listed base t h r
   |none=>pick E q ops listed base t h r
  |none=>pick E q ops listed base t h r
structure RO where
 t:List AV
 nx:Nat
 h:Hp
 ld:Lds
 hs:List Hp
def stpW (E:Env)(cf:Zbi)(ops:List Oper)(fr:Nat)(t:List AV)(nx:Nat)(h:Hp)(o:Oper):Option R3:=
 if ZfZ ops t o then stp E cf fr t nx h o.op else some (.t [],nx,h)
def ZdH (E:Env)(q:Bool)(cf:Zbi)(ops:List Oper)(base:Nat):Nat→Array Bool→List AV→Nat→Hp→Option RO
 |0,listed,t,nx,h=>match Region.ready .any ops.toArray listed with
  |[]=>some ⟨t,nx,h,[],[]⟩
  |_=>none
 |n+1,listed,t,nx,h=>match Region.ready .any ops.toArray listed with
  |[]=>some ⟨t,nx,h,[],[]⟩
  |rs=>match pick E q ops listed base t h rs with
   |some (i,o,v,l)=>opt (ZdH E q cf ops base n (listed.setIfInBounds i true) (ZcP o.dst v t) nx h) fun r=>some {r with ld:=l++r.ld}
   |none=>match rs with
    |[i]=>opt (ZaP ops i) fun o=>opt (stpW E cf ops (base+i) t nx h o) fun s=>opt (ZdH E q cf ops base n (listed.setIfInBounds i true) (ZcP o.dst s.1 t) s.2.1 s.2.2) fun r=>some {r with hs:=s.2.2::r.hs}
    |[i,j]=>opt (ZaP ops i) fun o=>opt (stpW E cf ops (base+i) t nx h o) fun s=>opt (ZdH E q cf ops base n (listed.setIfInBounds i true) (ZcP o.dst s.1 t) s.2.1 s.2.2) fun r=>
     opt (ZaP ops j) fun o2=>opt (stpW E cf ops (base+j) t nx h o2) fun s2=>opt (ZdH E q cf ops base n (listed.setIfInBounds j true) (ZcP o2.dst s2.1 t) s2.2.1 s2.2.2) fun r2=>
      if r.t=r2.t∧r.nx=r2.nx∧r.h=r2.h then some {r with ld:=r.ld++r2.ld,hs:=s.2.2::s2.2.2::(r.hs++r2.hs)} else none
    |_=>none
def Zb8 (E:Env)(base:Nat)(ld:Lds)(h:Hp):Bool:=ld.all fun x=>decide (x.1<base)&&x.2.2.all fcl&&decide (Zb5 E h (.c (.p x.1 x.2.1)) x.2.2.length=some x.2.2)
def regQ (E:Env)(q:Bool)(cf:Zbi)(ops:List Oper)(t:List AV)(nx:Nat)(h:Hp):Option (List AV×Nat×Hp):=
 if Region.noSelect ops.toArray then opt (ZdH E q cf ops nx ops.length (Array.replicate ops.length false) t (nx+ops.length) h) fun r=>if(h::r.hs).all (Zb8 E nx r.ld) then some (r.t,r.nx,r.h) else none else none
def regD (E:Env)(cf:Zbi)(ops:List Oper)(t:List AV)(nx:Nat)(h:Hp):Option (List AV×Nat×Hp):=
 match regQ E true cf ops t nx h with
 |some r=>some r
 |none=>regQ E false cf ops t nx h
def ZbN (b:Nat):List Cl→List Nat
 |[]=>[]
 | .p i _::l=>if b≤i then i::ZbN b l else ZbN b l
 | .sl i _ _ _::l=>if b≤i then i::ZbN b l else ZbN b l
 | .m i::l=>if b≤i then i::ZbN b l else ZbN b l
 | .fn _ fs cs::l=>fs.map (·.1)++(cs.map (·.1)++ZbN b l)
 |_::l=>ZbN b l
def ZhY (b:Nat):List A0→List Nat
 |[]=>[]
 | .c x::l=>ZbN b [x]++ZhY b l
 | .a m::l=>ZbN b m++ZhY b l
def avIds (b:Nat):AV→List Nat
 | .c x=>ZbN b [x]
 | .a l=>ZbN b l
 | .t l=>ZhY b l
def obIds (b:Nat):Ob→List Nat
 | .cl l _ _ _=>ZbN b l
 |_=>[]
def reach (b:Nat)(h:Hp):Nat→List Nat→List Nat→List Nat
 |0,_,acc=>acc
 |n+1,now,acc=>match now.flatMap fun i=>match look h i with|some o=>obIds b o|none=>[] with
  |[]=>acc
  |nw=>reach b h n nw (nw++acc)
def Zd9 (b:Nat)(ids:List Nat):Hp→Hp
 |[]=>[]
 |x::l=>if x.1<b then x::Zd9 b ids l else if ids.contains x.1 then x::Zd9 b ids l else Zd9 b ids l
def gc (b:Nat)(v:AV)(h:Hp):Hp:=
 let ids:=avIds b v
 Zd9 b (reach b h 6 ids ids) h
def ZdI (E:Env)(t:List AV)(h:Hp):List ResultVar→Option (List AV)
 |[]=>some []
 | .tmp i::l=>opt (ZaP t i) fun v=>opt (ZdI E t h l) fun r=>some (v::r)
 | .cell i ty::l=>opt (E.ty ty) fun ti=>opt (ZaP t i) fun x=>opt (Zb5 E h x ti.size) fun c=>opt (mk ti c) fun v=>opt (ZdI E t h l) fun r=>some (v::r)
def a0s:List AV→Option (List A0)
 |[]=>some []
 |v::l=>opt v.a0 fun x=>opt (a0s l) fun r=>some (x::r)
def Zg3:List AV→Option AV
 |[v]=>some v
 |l=>opt (a0s l) fun r=>some (.t r)
def cl (E:Env)(orc:Nat→List AV→Hp→Option AV)(esc:Nat→Bool)(run:Code→List AV→Nat→Hp→Option (Ex×List AV×Nat×Hp)):Zbi:=fun f args nx h=>
 opt (E.fn f) fun F=>opt F.body fun c=>match orc f args h with
 |some v=>some (v,nx,h)
 |none=>match run c (args++List.replicate (F.ntmps - args.length) (.t [])) nx h with
  |some (e,t',nx',h')=>match e with
   | .exit _=>none
   |_=>opt (ZdI E t' h' F.results.toList) fun l=>opt (Zg3 l) fun v=>some (v,nx',if esc f then h' else gc nx v h')
  |none=>none
abbrev Zc0:=Code→List AV→Nat→Hp→Option (Ex×List AV×Nat×Hp)
def fin (m:Nat)(s:List AV×Nat×Hp):Option (Ex×List AV×Nat×Hp):=
 cond (Nat.beq (m % 16) 0) (frc s.1 fun t=>frc s.2.2 fun h=>some (.nrm,t,s.2.1,h)) (some (.nrm,s))
def xReg (E:Env)(m:Nat)(cf:Zbi)(ops:List Oper)(t:List AV)(nx:Nat)(h:Hp):Option (Ex×List AV×Nat×Hp):=opt (regS E cf ops ops t nx h) (fin m)
def Zj0 (E:Env)(cf:Zbi)(ops:List Oper)(t:List AV)(nx:Nat)(h:Hp):Option (Ex×List AV×Nat×Hp):=opt (regD E cf ops t nx h) fun s=>some (.nrm,s)
def xSeq (ih:Zc0)(a b:Code)(t:List AV)(nx:Nat)(h:Hp):Option (Ex×List AV×Nat×Hp):=match ih a t nx h with
 |some (.nrm,t',nx',h')=>ih b t' nx' h'
 |r=>r
def ZjY (ih:Zc0)(x:Operand)(a b:Code)(t:List AV)(nx:Nat)(h:Hp):Option (Ex×List AV×Nat×Hp):=match evB t x with
 |some true=>ih a t nx h
 |some false=>ih b t nx h
 |none=>none
def ZjX (ih:Zc0)(id:Nat)(b:Code)(t:List AV)(nx:Nat)(h:Hp):Option (Ex×List AV×Nat×Hp):=match ih b t nx h with
 |some (.exit id',s)=>if id'=id then some (.nrm,s) else some (.exit id',s)
 |r=>r
def ZjZ (ih:Zc0)(b:Code)(t:List AV)(nx:Nat)(h:Hp):Option (Ex×List AV×Nat×Hp):=match ih b t nx h with
 |some (.nrm,t',nx',h')=>ih (.loop b) t' nx' h'
 |r=>r
def ZeO (E:Env)(orc:Nat→List AV→Hp→Option AV)(esc:Nat→Bool)(m:Nat)(ih:Zc0)(c:Code)(t:List AV)(nx:Nat)(h:Hp):Option (Ex×List AV×Nat×Hp):=match c with
 | .skip=>some (.nrm,t,nx,h)
 | .label _=>some (.nrm,t,nx,h)
 | .region _ ops false=>xReg E m (cl E orc esc ih) ops.toList t nx h
 | .region _ ops true=>Zj0 E (cl E orc esc ih) ops.toList t nx h
 | .seq a b=>xSeq ih a b t nx h
 | .cond x a b=>ZjY ih x a b t nx h
 | .block id b=>ZjX ih id b t nx h
 | .loop b=>ZjZ ih b t nx h
 | .exit id=>some (.exit id,t,nx,h)
 | .ret=>some (.ret,t,nx,h)
 |_=>none
def ex (E:Env)(orc:Nat→List AV→Hp→Option AV)(esc:Nat→Bool)(n:Nat):Zc0:=
 Nat.rec (motive:=fun _=>Zc0) (fun _ _ _ _=>none) (fun m ih=>ZeO E orc esc m ih) n
def run (E:Env)(orc:Nat→List AV→Hp→Option AV)(esc:Nat→Bool)(n f:Nat)(args:List AV):Option AV:=
 opt (cl E orc esc (ex E orc esc n) f args 0 []) fun r=>some r.1
end
end Ev
namespace Ev
structure EOk (P:Program)(E:Env)(n0:Nat)(w0:World):Prop where
 ty:∀t ti,E.ty t=some ti→TyOk P t ti
 eq:∀t ti,E.eqt t=true→E.ty t=some ti→ZcX P t ti∧(∀n e,ti.k= .ar n e→Zdm P t ti)
 gl:GOk E n0 w0
 fn:∀f F,E.fn f=some F→P.funcs[f]? =some F∧(F.name== "runtime.NumGoroutine")=false
 mixed:P.follows .mixedOrders=true
def CPost (n0:Nat)(w0:World)(ρ:Rho)(nx:Nat)(v:AV)(nx':Nat)(h':Hp)(e:Ending)(w':World):Prop:=
 ∃ρ' V,e= .returned V∧AR ρ' v V∧IV n0 w0 ρ' nx' h' w'∧nx≤nx'∧∀i,i<nx→ρ' i=ρ i
def ZdP (P:Program)(n0:Nat)(w0:World)(cf:Zbi):Prop:=
 ∀f args nx h v nx' h',cf f args nx h=some (v,nx',h')→(∃F,P.funcs[f]? =some F∧(F.name== "runtime.NumGoroutine")=false∧F.body.isNone=false)∧
  ∀ρ w (A:List Value),IV n0 w0 ρ nx h w→PW (AR ρ) args A→Calls P f A.toArray w (CPost n0 w0 ρ nx v nx' h')
section
variable {P:Program} {E:Env} {n0:Nat} {w0 w:World} {ρ:Rho} {nx fr:Nat} {h:Hp} {t:List AV} {a:Act} {o:Oper} {v:AV} {cf:Zbi}
theorem Ztz {ρ':Rho} (hI:IV n0 w0 ρ nx h w)(hag:∀i,i<nx→ρ' i=ρ i):ρ.le ρ':=by
 intro i x hx;by_cases hi:i<nx
 · rw [hag i hi];exact hx
 · rw [hI.fresh i (by omega)] at hx;cases hx
theorem Zl4 (ht:TR ρ t a):∀{l:List Operand} {r:List AV},evs t l=some r→PW (AR ρ) r (l.map a.eval)
 |[],r,h=>by simp only [evs,Option.some.injEq] at h;subst h;trivial
 |x::l,r,h=>by
  simp only [evs] at h;obtain⟨v,h1,h⟩:=Zb h;obtain⟨r',h2,h⟩:=Zb h;injection h with h;subst h
  exact⟨Zj ht h1,Zl4 ht h2⟩
theorem Zi7:∀{l:List (Nat×Nat)} {m:List Value},PW (PtR ρ) l m→PW (AR ρ) (pAV l) m
 |[],[],_=>trivial
 |_::_,_::_,h=>⟨h.1,Zi7 h.2⟩
 |[],_::_,h=>h.elim
 |_::_,[],h=>h.elim
theorem Zmz {x:Nat×Ob}:∀{l:Hp} {y:Nat×Ob},y∈insH x l→y=x∨y∈l
 |[],y,h=>by
  have h2:y∈[x]:=h;exact .inl (by simpa using h2)
 |z::l,y,h=>by
  have h2:y∈cond (Nat.blt x.1 z.1) (z::insH x l) (x::z::l):=h;cases e:Nat.blt x.1 z.1 with
  |true=>
   rw [e] at h2;rcases List.mem_cons.1 h2 with rfl|h2
   · exact .inr (List.mem_cons_self ..)
   · rcases Zmz h2 with h3|h3
     · exact .inl h3
     · exact .inr (List.mem_cons_of_mem _ h3)
  |false=>
   rw [e] at h2;rcases List.mem_cons.1 h2 with rfl|h2
   · exact .inl rfl
   · exact .inr h2
theorem ZtV {h:Hp} {y:Nat×Ob} (hy:y∈nrmH h):y∈h:=by
 unfold nrmH at hy;split at hy
 · exact hy
 · rcases Zmz hy with rfl|h2
   · exact List.mem_cons_self ..
   · exact List.mem_cons_of_mem _ h2
theorem Zoh (hOk:EOk P E n0 w0)(hcf:ZdP P n0 w0 cf)(ht:TR ρ t a)(hI:IV n0 w0 ρ nx h w)(hf:fr<nx)(hn:ρ fr=none){nx':Nat} {h':Hp} (hs:stp E cf fr t nx h o.op=some (v,nx',h')){K:Act→World→Prop} {Q:Exit→Act→World→Prop}
 (hK:∀ρ' V w',AR ρ' v V→IV n0 w0 ρ' nx' h' w'→ρ.le ρ'→nx≤nx'→(∀i,i<nx→i≠fr→ρ' i=ρ i)→K (a.put o.dst V) w'):o.wp P a w K Q:=by
 unfold stp at hs;split at hs
 · rename_i u hp
   simp only [Option.some.injEq,Prod.mk.injEq] at hs;obtain⟨rfl,rfl,rfl⟩:=hs;obtain⟨V,hV,hr⟩:=ZnB hOk.ty (fun t ti h1 h2=>(hOk.eq t ti h1 h2).1) ht hp;unfold Oper.wp;rw [hr w];exact hK ρ V w hV hI ρ.le_refl (Nat.le_refl _) (fun _ _ _=>rfl)
 · rename_i hp
   split at hs
   · rename_i u h1 he
     simp only [Option.some.injEq,Prod.mk.injEq] at hs;obtain⟨rfl,rfl,rfl⟩:=hs;obtain⟨ρ',w',V,hV,hr,hI0,hle,hag⟩:=eff_ok hOk.ty hOk.eq hOk.gl ht hI hf hn he;have hI':=hI0.sub (h':=nrmH h1) (fun y hy=>ZtV hy);unfold Oper.wp;rcases hr with hr|⟨hu,hr⟩
     · rw [hr];exact hK ρ' V w' hV hI' hle (Nat.le_refl _) (fun i _ hi=>hag i hi)
     · rw [hr];subst hu;exact hK ρ' undef w' hV hI' hle (Nat.le_refl _) (fun i _ hi=>hag i hi)
   · rename_i he
     unfold Zlm at hs;split at hs
     case h_2=>cases hs
     rename_i c hc
     split at hs
     case h_2=>cases hs
     rename_i f hcal
     split at hs
     case h_2=>cases hs
     rename_i k fs cs hfv
     obtain⟨l,hl,hs⟩:=Zb hs;obtain⟨m,n,hF,hfs,hcs⟩:=Zj ht hfv;have hargs:=Zl4 ht hl;obtain⟨⟨F,hF1,hF2,hF3⟩,hcall⟩:=hcf _ _ _ _ _ _ _ hs;have hpw:PW (AR ρ) (pAV fs++(l++pAV cs)) (m++(c.args.toList.map a.eval++n)):=(Zi7 hfs).app (hargs.app (Zi7 hcs));have hC:=hcall ρ w _ hI hpw;have hrun:(execOp a.eval o).run P w= .ok (.enter k (m++(c.args.toList.map a.eval++n)).toArray) w:=by
      have harr:m.toArray++c.args.map a.eval++n.toArray=(m++(c.args.toList.map a.eval++n)).toArray:=by
       apply Array.ext';simp
      unfold execOp;simp only [hc,resolve,hcal,hF,Deferred.ofValue,Sem.run_bind,Sem.run_pure,Result.andThen_ok,invoke,callFunc,harr];have g2:¬F.name= "runtime.NumGoroutine" :=by simpa using hF2
      have g3:¬F.body=none:=by intro e;rw [e] at hF3;cases hF3
      simp [hF1,g2,g3]
     unfold Oper.wp;rw [hrun,Oper.upon_enter];refine Calls.mono hC ?_;rintro e w' ⟨ρ',V,rfl,hV,hI',hle,hag⟩;exact hK ρ' V w' hV hI' (Ztz hI hag) hle (fun i hi _=>hag i hi)
theorem Zg8 {d:Option Nat} {V:Value} (ht:TR ρ t a)(hv:AR ρ v V):TR ρ (ZcP d v t) (a.put d V):=by
 cases d with
 |none=>exact ht
 |some i=>
  unfold ZcP;simp only [Zn3];exact put_ok ht hv
theorem Zg9 {d:Option Nat} {V:Value}:(a.put d V).defers=a.defers:=by cases d<;>rfl
theorem TR.mono {σ:Rho} (h:ρ.le σ)(ht:TR ρ t a):TR σ t a:=PW.mono (AR.mono h) ht
theorem ZjQ {ops:Array Oper} (ht:TR ρ t a):ZfZ ops.toList t o=Region.wanted o (yielded ops a.tmps):=by
 unfold ZfZ Region.wanted;cases hg:o.guard with
 |none=>rfl
 |some jy=>
  obtain⟨j,y⟩:=jy;simp only;rw [Zbq];unfold yielded;rw [Array.getElem?_toList];cases hj:ops[j]? with
  |none=>simp
  |some oj=>
   simp only [Option.bind_some];cases hd:oj.dst with
   |none=>simp
   |some d=>
    simp only [Option.bind_some];rw [Zbq];cases hv:t[d]? with
    |none=>
     have:a.tmps[d]? =none:=by
      have h1:=ht.len;have h2:=List.getElem?_eq_none_iff.1 hv;have h3:a.tmps.toList[d]? =none:=List.getElem?_eq_none_iff.2 (by rw [←h1];exact h2);simpa using h3
     rw [this];rfl
    |some u=>
     obtain⟨V,hV,hr⟩:=ht.get hv;have hV':a.tmps[d]? =some V:=by simpa using hV
     rw [hV'];cases u with
     |a l=>obtain⟨m,rfl,_⟩:=hr;rfl
     |t l=>obtain⟨m,rfl,_⟩:=hr;rfl
     |c x=>
      cases x with
      |b z=>
       have e:V= .bool z:=hr;subst e;simp only;cases z<;>cases y<;>rfl
      |i _ _=>have e:=hr;simp only [AR,VR] at e;subst e;rfl
      |s _=>have e:=hr;simp only [AR,VR] at e;subst e;rfl
      |zp=>have e:=hr;simp only [AR,VR] at e;subst e;rfl
      |zs=>have e:=hr;simp only [AR,VR] at e;subst e;rfl
      |zf=>have e:=hr;simp only [AR,VR] at e;subst e;rfl
      |zi=>have e:=hr;simp only [AR,VR] at e;subst e;rfl
      |zm=>have e:=hr;simp only [AR,VR] at e;subst e;rfl
      |g _ _=>have e:=hr;simp only [AR,VR] at e;subst e;rfl
      |p _ _=>obtain⟨b,c,_,rfl⟩:=hr;rfl
      |m _=>obtain⟨b,c,_,rfl⟩:=hr;rfl
      |sl _ _ _ _=>obtain⟨b,c,o,_,_,_,rfl⟩:=hr;rfl
      |fn _ _ _=>obtain⟨m,n,rfl,_⟩:=hr;rfl
def Ex.toE:Ex→Exit
 | .nrm=> .normal
 | .exit id=> .exit id
 | .ret=> .ret
def SP (n0:Nat)(w0:World)(ρ:Rho)(nx:Nat)(e:Ex)(t':List AV)(nx':Nat)(h':Hp):Exit→Act→World→Prop:=fun x a' w'=>
 x=e.toE∧a'.defers=[]∧∃ρ',IV n0 w0 ρ' nx' h' w'∧TR ρ' t' a'∧nx≤nx'∧∀i,i<nx→ρ' i=ρ i
theorem SP.mono {ρ':Rho} {nx1 nx':Nat} {e:Ex} {t':List AV} {h':Hp} (hle:nx≤nx1)(hag:∀i,i<nx→ρ' i=ρ i){x:Exit} {a':Act} {w':World} (h:SP n0 w0 ρ' nx1 e t' nx' h' x a' w'):SP n0 w0 ρ nx e t' nx' h' x a' w':=by
 obtain⟨h1,h2,σ,h3,h4,h5,h6⟩:=h;exact⟨h1,h2,σ,h3,h4,by omega,fun i hi=>(h6 i (by omega)).trans (hag i hi)⟩
theorem SP.nopanic {e:Ex} {t':List AV} {nx':Nat} {h':Hp} (c:List PanicEntry)(a' a'':Act)(w':World)(h:SP n0 w0 ρ nx e t' nx' h' (.panic c) a' w'):SP n0 w0 ρ nx e t' nx' h' (.panic c) a'' w':=by
 obtain⟨h1,_⟩:=h;cases e<;>cases h1
theorem Zub {Q Q':Exit→Act→World→Prop} (hq:∀x a w,Q x a w→Q' x a w){K K':Act→World→Prop} (hk:∀a w,K a w→K' a w)(hh:o.wp P a w K Q):o.wp P a w K' Q':=by
 unfold Oper.wp at*;generalize (execOp a.eval o).run P w=r at*;cases r with
 |ok n w'=>
  cases n<;>simp only [Oper.upon] at hh⊢<;>
   first
    |exact hk _ _ hh
    |exact Calls.mono hh (fun e w'' he=>by cases e<;>first|exact hk _ _ he|exact hq _ _ _ he|(obtain⟨a1,w1,h1⟩:=he;exact⟨a1,w1,hq _ _ _ h1⟩))
    |exact Rows.mono hh (fun _ _ he=>hk _ _ he)
 |halt x w'=>cases x<;>simp only [Oper.upon] at hh⊢<;>first|exact hq _ _ _ hh|exact hh
theorem ZjR {ops:Array Oper} {Q Q':Exit→Act→World→Prop} (hq:∀x a w,Q x a w→Q' x a w):∀{l:List Oper} {a:Act} {w:World},wpList P ops Q l a w→wpList P ops Q' l a w
 |[],_,_,h=>hq _ _ _ h
 |o::l,a,w,h=>by
  unfold wpList at*;split
  · rename_i hw
    rw [if_pos hw] at h;rcases h with h|⟨h1,a1,w1,h2⟩
    · exact .inl (Zub hq (fun a w h=>ZjR hq h) h)
    · exact .inr ⟨h1,a1,w1,hq _ _ _ h2⟩
  · rename_i hw
    rw [if_neg hw] at h;exact ZjR hq h
theorem Zjd (hOk:EOk P E n0 w0)(hcf:ZdP P n0 w0 cf)(ops:Array Oper):∀(l:List Oper) (t:List AV) (nx:Nat) (h:Hp) (t':List AV) (nx':Nat) (h':Hp) (ρ:Rho) (a:Act) (w:World),regS E cf ops.toList l t nx h=some (t',nx',h')→TR ρ t a→IV n0 w0 ρ nx h w→a.defers=[]→
 wpList P ops (SP n0 w0 ρ nx .nrm t' nx' h') l a w
 |[],t,nx,h,t',nx',h',ρ,a,w,hs,ht,hI,hd=>by
  have hs2:some (t,nx,h)=some (t',nx',h'):=hs;simp only [Option.some.injEq,Prod.mk.injEq] at hs2;obtain⟨rfl,rfl,rfl⟩:=hs2;exact⟨rfl,hd,ρ,hI,ht,Nat.le_refl _,fun _ _=>rfl⟩
 |o::l,t,nx,h,t',nx',h',ρ,a,w,hs,ht,hI,hd=>by
  have hs2:Zje E cf ops.toList o (regS E cf ops.toList l) t nx h=some (t',nx',h'):=hs;unfold Zje at hs2;rw [ZjQ ht] at hs2;unfold wpList;split at hs2
  · rename_i hw
    rw [if_pos hw]
    left
    split at hs2
    · rename_i v nx1 h1 hstp
      refine Zoh hOk hcf ht (hI.next 1) (by omega) (hI.fresh nx (Nat.le_refl _)) hstp (fun ρ' V w' hV hI' hle hnx hag=> ?_);have hag2:∀i,i<nx→ρ' i=ρ i:=fun i hi=>hag i (by omega) (by omega);refine ZjR ?_ (Zjd hOk hcf ops l _ _ _ _ _ _ ρ' _ w' hs2 (Zg8 (ht.mono hle) hV) hI' (by rw [Zg9];exact hd));exact fun x a' w' hh=>SP.mono (by omega) hag2 hh
    · cases hs2
  · rename_i hw
    rw [if_neg hw];exact Zjd hOk hcf ops l _ _ _ _ _ _ ρ _ w hs2 (Zg8 ht (Zfa ρ)) hI (by rw [Zg9];exact hd)
end
end Ev
namespace Ev
section
variable {P:Program} {E:Env} {n0:Nat} {w0 w:World} {ρ:Rho} {nx fr:Nat} {h:Hp} {t:List AV} {a:Act} {o:Oper} {v:AV} {cf:Zbi}
theorem PtR.fun' {x:Nat×Nat} {u v:Value} (h:PtR ρ x u)(h':PtR ρ x v):u=v:=by
 obtain⟨b,c,h1,rfl⟩:=h;obtain⟨b',c',h2,rfl⟩:=h';rw [h1] at h2;injection h2 with h2
 injection h2 with h2 h3
 rw [h2]
theorem PW.funs {α:Type} {R:α→Value→Prop} (hR:∀x u v,R x u→R x v→u=v):∀{l:List α} {m m':List Value},PW R l m→PW R l m'→m=m'
 |[],[],[],_,_=>rfl
 |_::_,_::_,_::_,h,h'=>by rw [hR _ _ _ h.1 h'.1,PW.funs hR h.2 h'.2]
 |[],_::_,_,h,_=>h.elim
 |[],[],_::_,_,h=>h.elim
 |_::_,[],_,h,_=>h.elim
 |_::_,_::_,[],_,h=>h.elim
theorem VR.fun' {x:Cl} (hx:fcl x=true){u v:Value} (h:VR ρ x u)(h':VR ρ x v):u=v:=by
 cases x<;>first
  |(simp only [VR] at h h';rw [h,h'];done)
  |(obtain⟨b,c,h1,rfl⟩:=h;obtain⟨b',c',h2,rfl⟩:=h';rw [h1] at h2;injection h2 with h2;injection h2 with h2 h3;rw [h2];done)
  |skip
 · rename_i id off len cut
   obtain⟨b,c,o,h1,h2,h3,rfl⟩:=h;obtain⟨b',c',o',h4,h5,h6,rfl⟩:=h';rw [h1] at h4;injection h4 with h4
   injection h4 with h4 h7
   subst h4 h7;have hc:len≠0∨cut=0:=by simpa [fcl] using hx
   rw [h3 hc,h6 hc]
 · obtain⟨m,n,rfl,h1,h2⟩:=h;obtain⟨m',n',rfl,h3,h4⟩:=h';rw [PW.funs (R:=PtR ρ) (fun _ _ _ a b=>PtR.fun' a b) h1 h3,PW.funs (R:=PtR ρ) (fun _ _ _ a b=>PtR.fun' a b) h2 h4]
theorem LR.fun':∀{l:List Cl} {m m':List Value},l.all fcl=true→LR ρ l m→LR ρ l m'→m=m'
 |[],[],[],_,_,_=>rfl
 |_::_,_::_,_::_,hf,h,h'=>by
  simp only [List.all_cons,Bool.and_eq_true] at hf;rw [VR.fun' hf.1 h.1 h'.1,LR.fun' hf.2 h.2 h'.2]
 |[],_::_,_,_,h,_=>h.elim
 |[],[],_::_,_,_,h=>h.elim
 |_::_,[],_,_,h,_=>h.elim
 |_::_,_::_,[],_,_,h=>h.elim
theorem PW.mem {α β:Type} {R:α→β→Prop}:∀{l:List α} {m:List β} {x:α},PW R l m→x∈l→∃y∈m,R x y
 |y::l,z::m,x,h,hx=>by
  rcases List.mem_cons.1 hx with rfl|hx
  · exact⟨z,List.mem_cons_self ..,h.1⟩
  · obtain⟨u,h1,h2⟩:=PW.mem h.2 hx;exact⟨u,List.mem_cons_of_mem _ h1,h2⟩
 |[],_,_,_,hx=>by cases hx
 |_::_,[],_,h,_=>h.elim
def LdR (ρ:Rho)(x:Nat×Nat×List Cl)(d:Nat×Nat×List Value):Prop:=(∃c,ρ x.1=some (d.1,c))∧d.2.1=x.2.1∧LR ρ x.2.2 d.2.2
def SS (n0:Nat)(w0:World)(D:List (Nat×Nat×List Value))(w:World):Prop:=Below n0 w0 w∧∀d∈D,∀j u,d.2.2[j]? =some u→w.cell? ⟨d.1,d.2.1+j,none⟩=some u
theorem ld_at (hG:GOk E n0 w0)(hI:IV n0 w0 ρ nx h w){base:Nat} {LD:Lds} (hh:Zb8 E base LD h=true){x:Nat×Nat×List Cl} (hx:x∈LD):
 x.1<base∧x.2.2.all fcl=true∧∃b c m,ρ x.1=some (b,c)∧LR ρ x.2.2 m∧∀j u,m[j]? =some u→w.cell? ⟨b,x.2.1+j,none⟩=some u:=by
 unfold Zb8 at hh;have h1:=List.all_eq_true.1 hh x hx;simp only [Bool.and_eq_true,decide_eq_true_eq] at h1;obtain⟨⟨h2,h3⟩,h4⟩:=h1;have h5:=h4;unfold Zb5 at h5;simp only at h5;split at h5
 · rename_i L ty sz row hlk
   obtain⟨b,c,q1,_⟩:=hI.ob _ (Zbd hlk);obtain⟨b2,o2,m,e2,hml,hl,hcell⟩:=Zd1 (x:= .c (.p x.1 x.2.1)) (X:= .pointer (some ⟨b,x.2.1,none⟩)) hG hI ⟨b,c,q1,rfl⟩ h4;injection e2 with e2
   injection e2 with e2
   injection e2 with e2 e3
   subst e2 e3;exact⟨h2,h3,b,c,m,q1,hl,hcell⟩
 · cases h5
theorem ZmI (hG:GOk E n0 w0)(hI:IV n0 w0 ρ nx h w){base:Nat}:∀{LD:Lds},Zb8 E base LD h=true→∃D,PW (LdR ρ) LD D∧SS n0 w0 D w
 |[],_=>⟨[],trivial,hI.low,fun d hd=>by cases hd⟩
 |x::LD,hh=>by
  obtain⟨h1,h2,b,c,m,h3,h4,h5⟩:=ld_at hG hI hh (List.mem_cons_self ..);have hh':Zb8 E base LD h=true:=by
   unfold Zb8 at*;simp only [List.all_cons,Bool.and_eq_true] at hh⊢;exact hh.2
  obtain⟨D,d1,d2⟩:=ZmI hG hI hh';refine⟨(b,x.2.1,m)::D,⟨⟨⟨c,h3⟩,rfl,h4⟩,d1⟩,hI.low,fun d hd=> ?_⟩;rcases List.mem_cons.1 hd with rfl|hd
  · exact h5
  · exact d2.2 d hd
theorem ZmH (hG:GOk E n0 w0){ρ0:Rho} (hI:IV n0 w0 ρ nx h w){base:Nat} (hle:ρ0.le ρ):∀{LD:Lds} {D:List (Nat×Nat×List Value)},Zb8 E base LD h=true→PW (LdR ρ0) LD D→SS n0 w0 D w
 |[],[],_,_=>⟨hI.low,fun d hd=>by cases hd⟩
 |x::LD,d::D,hh,hD=>by
  obtain⟨h1,h2,b,c,m,h3,h4,h5⟩:=ld_at hG hI hh (List.mem_cons_self ..);have hh':Zb8 E base LD h=true:=by
   unfold Zb8 at*;simp only [List.all_cons,Bool.and_eq_true] at hh⊢;exact hh.2
  obtain⟨⟨c0,g1⟩,g2,g3⟩:=hD.1;have g4:=hle _ _ g1;rw [h3] at g4;injection g4 with g4
  injection g4 with g4 g5
  have g6:=LR.fun' h2 (g3.mono (VR.mono hle)) h4;obtain⟨_,k2⟩:=ZmH hG hI hle hh' hD.2;refine⟨hI.low,fun d' hd'=> ?_⟩;rcases List.mem_cons.1 hd' with rfl|hd'
  · intro j u hu;rw [g6] at hu;rw [←g4,g2];exact h5 j u hu
  · exact k2 d' hd'
 |[],_::_,_,h=>h.elim
 |_::_,[],_,h=>h.elim
theorem ZuG (hOk:EOk P E n0 w0){ops:Array Oper} {base:Nat} {ρ0:Rho} {LD:Lds} {D:List (Nat×Nat×List Value)} (hD:PW (LdR ρ0) LD D)(hle:ρ0.le ρ)(ht:TR ρ t a){l:Lds} {q:Bool} (hq:quiet E q ops.toList base t h o=some (v,l))(hl:∀x∈l,x∈LD)(hI:IV n0 w0 ρ nx h w):
 ∃V,AR ρ v V∧YieldsIf P ops (SS n0 w0 D) o V a:=by
 unfold quiet at hq;rw [ZjQ ht] at hq;split at hq
 · rename_i hw
   split at hq
   · rename_i u hp
     simp only [Option.some.injEq,Prod.mk.injEq] at hq;obtain⟨rfl,rfl⟩:=hq;obtain⟨V,hV,hr⟩:=ZnB hOk.ty (fun t ti h1 h2=>(hOk.eq t ti h1 h2).1) ht hp;exact⟨V,hV,.inl ⟨hw,fun w _=>hr w⟩⟩
   · split at hq
     case isFalse=>cases hq
     unfold ldOf at hq;split at hq
     case h_2=>cases hq
     rename_i ty x hop
     obtain⟨ti,h1,hq⟩:=Zb hq;have hexec:execOp a.eval o=(do let v←Instr.loadAt ty (a.eval x);pure (.value v)):=by
      unfold execOp;simp only [hop]
     have hT:=hOk.ty _ _ h1;split at hq
     · rename_i i off hx
       split at hq
       case isFalse=>cases hq
       obtain⟨L,h2,hq⟩:=Zb hq;split at hq
       case isFalse=>cases hq
       obtain⟨u,h3,hq⟩:=Zb hq;simp only [Option.some.injEq,Prod.mk.injEq] at hq;obtain⟨rfl,rfl⟩:=hq;obtain⟨d,hd,⟨c,g1⟩,g2,g3⟩:=PW.mem hD (hl _ (List.mem_cons_self ..));obtain⟨b,c',hb,hX⟩:∃b c,ρ i=some (b,c)∧a.eval x= .pointer (some ⟨b,off,none⟩):=Zj ht hx;have g4:=hle _ _ g1;simp only at g4;rw [hb] at g4;injection g4 with g4
       injection g4 with g4 g5
       have hlen:L.length=ti.size:=by
        obtain⟨b2,o2,m,e2,hml,hl2,_⟩:=Zd1 (x:= .c (.p i off)) (X:= .pointer (some ⟨b,off,none⟩)) hOk.gl hI ⟨b,c',hb,rfl⟩ h2;rw [hl2.len,hml]
       have g6:=g3.mono (VR.mono hle);obtain⟨V,hV,hr⟩:=Zhc (P:=P) hT h3 g6 (by rw [←g6.len];exact hlen) b off;refine⟨V,hV,.inl ⟨hw,fun w hS=> ?_⟩⟩;rw [hexec,hX];simp only [Sem.run_bind,hr w (fun j u hu=>by
        have:=hS.2 d hd j u hu;rw [←g4,g2] at this;exact this),Result.andThen_ok,Sem.run_pure]
     · rename_i g off hx
       obtain⟨L,h2,hq⟩:=Zb hq;obtain⟨u,h3,hq⟩:=Zb hq;simp only [Option.some.injEq,Prod.mk.injEq] at hq;obtain⟨rfl,rfl⟩:=hq;have hX:a.eval x= .pointer (some ⟨g,off,none⟩):=Zj ht hx;unfold Zb5 at h2;simp only at h2;obtain⟨GL,k1,h2⟩:=Zb h2;split at h2
       case isFalse=>cases h2
       rename_i hn
       injection h2 with h2;subst h2
       obtain⟨hg,m,k2,k3⟩:=hOk.gl _ _ k1;have hl2:=((k3 ρ).drop off).take ti.size;obtain⟨V,hV,hr⟩:=Zhc (P:=P) hT h3 hl2 (by rw [←hl2.len];exact hn) g off;refine⟨V,hV,.inl ⟨hw,fun w hS=> ?_⟩⟩;rw [hexec,hX];simp only [Sem.run_bind,hr w (fun j u hu=>by
        rw [hS.1.cell (p:=⟨g,off+j,none⟩) hg];refine k2 (off+j) u ?_;rw [List.getElem?_take] at hu;split at hu
        · rw [List.getElem?_drop] at hu;exact hu
        · cases hu),Result.andThen_ok,Sem.run_pure]
     · cases hq
 · rename_i hw
   simp only [Option.some.injEq,Prod.mk.injEq] at hq;obtain⟨rfl,rfl⟩:=hq;exact⟨undef,Zfa ρ,.inr ⟨by simpa using hw,rfl⟩⟩
theorem Zg5 {q:Bool} {ops:Array Oper} {listed:Array Bool} {base:Nat}:∀{rs:List Nat} {i:Nat} {o:Oper} {v:AV} {l:Lds},pick E q ops.toList listed base t h rs=some (i,o,v,l)→
 i∈rs∧ops[i]? =some o∧quiet E q ops.toList base t h o=some (v,l)∧Region.free .any ops listed i=true
 |[],i,o,v,l,hp=>by simp [pick] at hp
 |j::rs,i,o,v,l,hp=>by
  simp only [pick] at hp;split at hp
  · rename_i oj hj
    split at hp
    · rename_i u m hq
      split at hp
      · rename_i hf
        simp only [Option.some.injEq,Prod.mk.injEq] at hp;obtain⟨rfl,rfl,rfl,rfl⟩:=hp;rw [Zbq,Array.getElem?_toList] at hj;exact⟨List.mem_cons_self ..,hj,hq,by simpa using hf⟩
      · obtain⟨h1,h2⟩:=Zg5 hp;exact⟨List.mem_cons_of_mem _ h1,h2⟩
    · obtain⟨h1,h2⟩:=Zg5 hp;exact⟨List.mem_cons_of_mem _ h1,h2⟩
  · obtain⟨h1,h2⟩:=Zg5 hp;exact⟨List.mem_cons_of_mem _ h1,h2⟩
end
end Ev
namespace Ev
section
variable {P:Program} {E:Env} {n0:Nat} {w0 w:World} {ρ:Rho} {nx fr:Nat} {h:Hp} {t:List AV} {a:Act} {o:Oper} {v:AV} {cf:Zbi}
theorem ZjA (hOk:EOk P E n0 w0)(hcf:ZdP P n0 w0 cf){ops:Array Oper} (ht:TR ρ t a)(hI:IV n0 w0 ρ nx h w)(hf:fr<nx)(hn:ρ fr=none){nx':Nat} {h':Hp} (hs:stpW E cf ops.toList fr t nx h o=some (v,nx',h')){i:Nat} (hi:ops[i]? =some o){K:Act→World→Prop} {Q:Exit→Act→World→Prop}
 (hK:∀ρ' V w',AR ρ' v V→IV n0 w0 ρ' nx' h' w'→ρ.le ρ'→nx≤nx'→(∀i,i<nx→i≠fr→ρ' i=ρ i)→K (a.put o.dst V) w'):wpOp P ops Q i K a w:=by
 unfold stpW at hs;rw [ZjQ ht] at hs;unfold wpOp;simp only [hi];split at hs
 · rename_i hw
   rw [if_pos hw];exact .inl (Zoh hOk hcf ht hI hf hn hs hK)
 · rename_i hw
   rw [if_neg hw];simp only [Option.some.injEq,Prod.mk.injEq] at hs;obtain⟨rfl,rfl,rfl⟩:=hs;exact hK ρ undef w (Zfa ρ) hI ρ.le_refl (Nat.le_refl _) (fun _ _ _=>rfl)
theorem Zml {l:Array Bool} {i k:Nat} (h:(l.setIfInBounds i true).getD k true=false):l.getD k true=false∧k≠i:=by
 by_cases hk:k=i
 · subst hk
   exfalso
   by_cases hs:k<l.size
   · simp [hs] at h
   · simp [hs] at h
 · refine⟨?_,hk⟩;simp only [Array.getD_eq_getD_getElem?,Array.getElem?_setIfInBounds] at h⊢;rw [if_neg (fun e=>hk e.symm)] at h;exact h
theorem ZgI {l:Array Bool} {k:Nat} (h:l.getD k true=false):k<l.size:=by
 refine Classical.byContradiction fun hn=> ?_;simp [Array.getD_eq_getD_getElem?,Array.getElem?_eq_none (Nat.le_of_not_lt hn)] at h
structure PI (n0:Nat)(w0:World)(base:Nat)(ρ0:Rho)(D:List (Nat×Nat×List Value))(listed:Array Bool)(t:List AV)(nx:Nat)(h:Hp)(ρ:Rho)(a:Act)(w:World):Prop where
 iv:IV n0 w0 ρ nx h w
 room:base+listed.size≤nx
 ag:∀i,i<base→ρ i=ρ0 i
 unl:∀i,listed.getD i true=false→ρ (base+i)=none
 tr:TR ρ t a
 df:a.defers=[]
 le:ρ0.le ρ
 ss:SS n0 w0 D w
theorem PI.step (hG:GOk E n0 w0){base:Nat} {ρ0:Rho} {LD:Lds} {D:List (Nat×Nat×List Value)} {listed:Array Bool} (hD:PW (LdR ρ0) LD D)(hp:PI n0 w0 base ρ0 D listed t nx h ρ a w){i:Nat} (_hi:listed.getD i true=false)
 {ρ':Rho} {V:Value} {w':World} {nx':Nat} {h':Hp} (hV:AR ρ' v V) (hI':IV n0 w0 ρ' nx' h' w') (hle:ρ.le ρ') (hnx:nx≤nx') (hag:∀j,j<nx→j≠base+i→ρ' j=ρ j) (hld:Zb8 E base LD h'=true):
 PI n0 w0 base ρ0 D (listed.setIfInBounds i true) (ZcP o.dst v t) nx' h' ρ' (a.put o.dst V) w':=
 ⟨hI',by have:=hp.room;simp;omega,fun j hj=>(hag j (by have:=hp.room;omega) (by omega)).trans (hp.ag j hj),fun k hk=>by
  obtain⟨h1,h2⟩:=Zml hk;rw [hag (base+k) (by have:=hp.room;have:=ZgI h1;omega) (by omega)];exact hp.unl k h1,Zg8 (hp.tr.mono hle) hV,by rw [Zg9];exact hp.df,Rho.le_trans hp.le hle,ZmH hG hI' (Rho.le_trans hp.le hle) hld hD⟩
theorem PI.take {base:Nat} {ρ0:Rho} {D:List (Nat×Nat×List Value)} {listed:Array Bool} (hp:PI n0 w0 base ρ0 D listed t nx h ρ a w){i:Nat} {V:Value} (hV:AR ρ v V):
 PI n0 w0 base ρ0 D (listed.setIfInBounds i true) (ZcP o.dst v t) nx h ρ (a.put o.dst V) w:=
 ⟨hp.iv,by have:=hp.room;simpa using this,hp.ag,fun k hk=>hp.unl k (Zml hk).1,Zg8 hp.tr hV,by rw [Zg9];exact hp.df,hp.le,hp.ss⟩
theorem Zuw {q:Bool} (hOk:EOk P E n0 w0)(hcf:ZdP P n0 w0 cf)(ops:Array Oper)(hsel:Region.noSelect ops=true){base:Nat} {ρ0:Rho} {LD:Lds} {D:List (Nat×Nat×List Value)} (hD:PW (LdR ρ0) LD D):
 ∀(n:Nat) (listed:Array Bool) (t:List AV) (nx:Nat) (h:Hp) (r:RO),ZdH E q cf ops.toList base n listed t nx h=some r→(∀x∈r.ld,x∈LD)→(∀g∈r.hs,Zb8 E base LD g=true)→
 ∀(ρ:Rho) (a:Act) (w:World),PI n0 w0 base ρ0 D listed t nx h ρ a w→wpAnyH P .any ops (SP n0 w0 ρ0 base .nrm r.t r.nx r.h) (SS n0 w0 D) n listed a w:=by
 have done:∀(t:List AV) (nx:Nat) (h:Hp) (listed:Array Bool) (ρ:Rho) (a:Act) (w:World),PI n0 w0 base ρ0 D listed t nx h ρ a w→SP n0 w0 ρ0 base .nrm t nx h .normal a w:=
  fun t nx h listed ρ a w hp=>⟨rfl,hp.df,ρ,hp.iv,hp.tr,by have:=hp.room;omega,hp.ag⟩
 intro n;induction n with
 |zero=>
  intro listed t nx h r hr hl hg ρ a w hp;simp only [ZdH,Array.toArray_toList] at hr;split at hr
  · rename_i hrd
    injection hr with hr;subst hr
    exact wpAnyH_done hrd (done _ _ _ _ _ _ _ hp) 0
  · cases hr
 |succ n ih=>
  intro listed t nx h r hr hl hg ρ a w hp;simp only [ZdH,Array.toArray_toList] at hr;split at hr
  · rename_i hrd
    injection hr with hr;subst hr
    exact wpAnyH_done hrd (done _ _ _ _ _ _ _ hp) _
  · rename_i rs hne
    split at hr
    · rename_i i o v l hpk
      obtain⟨h1,h2,h3,h4⟩:=Zg5 hpk;obtain⟨r',h5,hr⟩:=Zb hr;injection hr with hr;subst hr
      obtain⟨V,hV,hy⟩:=ZuG hOk (ops:=ops) hD hp.le hp.tr h3 (fun x hx=>hl x (List.mem_append_left _ hx)) hp.iv;exact wpAnyH_take h2 hsel h4 (by simpa using h1) (fun c a' w' hh=>SP.nopanic c _ _ _ hh) hy hp.ss
       (ih _ _ _ _ r' h5 (fun x hx=>hl x (List.mem_append_right _ hx)) hg ρ _ w (hp.take hV))
    · split at hr
      · rename_i i hrs
        obtain⟨o,h1,hr⟩:=Zb hr;obtain⟨s,h2,hr⟩:=Zb hr;obtain⟨r',h3,hr⟩:=Zb hr;injection hr with hr;subst hr
        rw [Zbq,Array.getElem?_toList] at h1;refine wpAnyH_all hrs (by simp) fun j hj=> ?_;have hj':j=i:=by simpa using hj
        subst hj';have hli:listed.getD j true=false:=(mem_ready.1 (by rw [hrs];simp)).1;refine ZjA hOk hcf (fr:=base+j) (nx':=s.2.1) (h':=s.2.2) (v:=s.1) hp.tr hp.iv (by have:=hp.room;have:=ZgI hli;omega) (hp.unl j hli) h2 h1 (fun ρ' V w' hV hI' hle hnx hag=> ?_);have hp':=PI.step (o:=o) hOk.gl hD hp hli hV hI' hle hnx hag (hg _ (List.mem_cons_self ..));exact⟨hp'.ss,ih _ _ _ _ r' h3 hl (fun g hg'=>hg g (List.mem_cons_of_mem _ hg')) ρ' _ w' hp'⟩
      · rename_i i k hrs
        obtain⟨o,h1,hr⟩:=Zb hr;obtain⟨s,h2,hr⟩:=Zb hr;obtain⟨r1,h3,hr⟩:=Zb hr;obtain⟨o2,h4,hr⟩:=Zb hr;obtain⟨s2,h5,hr⟩:=Zb hr;obtain⟨r2,h6,hr⟩:=Zb hr;split at hr
        · rename_i heq
          injection hr with hr;subst hr
          rw [Zbq,Array.getElem?_toList] at h1 h4;refine wpAnyH_all hrs (by simp) fun j hj=> ?_;have hj':j=i∨j=k:=by simpa using hj
          have hli:listed.getD j true=false:=(mem_ready.1 (by rw [hrs];exact hj)).1;rcases hj' with rfl|rfl
          · refine ZjA hOk hcf (fr:=base+j) (nx':=s.2.1) (h':=s.2.2) (v:=s.1) hp.tr hp.iv (by have:=hp.room;have:=ZgI hli;omega) (hp.unl j hli) h2 h1 (fun ρ' V w' hV hI' hle hnx hag=> ?_);have hp':=PI.step (o:=o) hOk.gl hD hp hli hV hI' hle hnx hag (hg _ (List.mem_cons_self ..));exact⟨hp'.ss,ih _ _ _ _ r1 h3 (fun x hx=>hl x (List.mem_append_left _ hx)) (fun g hg'=>hg g (List.mem_cons_of_mem _ (List.mem_cons_of_mem _ (List.mem_append_left _ hg')))) ρ' _ w' hp'⟩
          · refine ZjA hOk hcf (fr:=base+j) (nx':=s2.2.1) (h':=s2.2.2) (v:=s2.1) hp.tr hp.iv (by have:=hp.room;have:=ZgI hli;omega) (hp.unl j hli) h5 h4 (fun ρ' V w' hV hI' hle hnx hag=> ?_);have hp':=PI.step (o:=o2) hOk.gl hD hp hli hV hI' hle hnx hag (hg _ (List.mem_cons_of_mem _ (List.mem_cons_self ..)));have hfin:=ih _ _ _ _ r2 h6 (fun x hx=>hl x (List.mem_append_right _ hx)) (fun g hg'=>hg g (List.mem_cons_of_mem _ (List.mem_cons_of_mem _ (List.mem_append_right _ hg')))) ρ' _ w' hp';rw [←heq.1,←heq.2.1,←heq.2.2] at hfin;exact⟨hp'.ss,hfin⟩
        · cases hr
      · cases hr
theorem ZnM {q:Bool} (hOk:EOk P E n0 w0)(hcf:ZdP P n0 w0 cf)(id:Nat)(ops:Array Oper){nx':Nat} {t':List AV} {h':Hp} (hr:regQ E q cf ops.toList t nx h=some (t',nx',h'))(ht:TR ρ t a)(hI:IV n0 w0 ρ nx h w)(hd:a.defers=[]):
 (Code.region id ops true).wp P (SP n0 w0 ρ nx .nrm t' nx' h') a w:=by
 unfold regQ at hr;rw [Array.toArray_toList] at hr;split at hr
 case isFalse=>cases hr
 rename_i hsel
 obtain⟨r,h1,hr⟩:=Zb hr;split at hr
 case isFalse=>cases hr
 rename_i hall
 simp only [Option.some.injEq,Prod.mk.injEq] at hr;obtain⟨rfl,rfl,rfl⟩:=hr;have hall':∀g∈h::r.hs,Zb8 E nx r.ld g=true:=List.all_eq_true.1 hall;obtain⟨D,d1,d2⟩:=ZmI hOk.gl hI (hall' h (List.mem_cons_self ..));have d3:SS n0 w0 D w.drew:=⟨d2.1.drew,d2.2⟩
 refine wp_region_held_drew hOk.mixed d3 (fun _=> ?_);rw [Array.length_toList] at h1;refine Zuw hOk hcf ops hsel d1 ops.size (Array.replicate ops.size false) t (nx+ops.size) h r h1 (fun x hx=>hx) (fun g hg=>hall' g (List.mem_cons_of_mem _ hg)) ρ a w.drew ⟨(hI.drew).next _,by simp,fun _ _=>rfl,fun i _=>hI.fresh _ (by omega),ht,hd,ρ.le_refl,d3⟩
theorem ZuI (hOk:EOk P E n0 w0)(hcf:ZdP P n0 w0 cf)(id:Nat)(ops:Array Oper){nx':Nat} {t':List AV} {h':Hp} (hr:regD E cf ops.toList t nx h=some (t',nx',h'))(ht:TR ρ t a)(hI:IV n0 w0 ρ nx h w)(hd:a.defers=[]):
 (Code.region id ops true).wp P (SP n0 w0 ρ nx .nrm t' nx' h') a w:=by
 unfold regD at hr;split at hr
 · rename_i r h1
   injection hr with hr
   subst hr;exact ZnM hOk hcf id ops h1 ht hI hd
 · exact ZnM hOk hcf id ops hr ht hI hd
end
end Ev
end Go.Proofs.YtlhllehffkoloaaGreatDoor
