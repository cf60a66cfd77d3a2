/- Lemmas for a statement on the tops; conditions: as each says. -/
import Derived.Tactics
import Derived.Test.YtlfinljfghhpdaaGreatDoorM9
set_option linter.unusedVariables false
set_option linter.unusedSimpArgs false
set_option maxRecDepth 100000
set_option maxHeartbeats 200000
namespace Go.Proofs.YtlfinljfghhpdaaGreatDoor
open Go Go.RowKit
namespace Ev
def ZcP (P:Program)(t:Nat)(ti:TI):Prop:=∀(l:List Cl) (L:List Value) (ρ:Rho) (em:Bool),shp ti.zero l=true→LR ρ l L→∀w,(Instr.checkKey em 10000 t (.agg L.toArray)).run P w= .ok () w
section
variable {P:Program} {E:Env} {n0:Nat} {w0 w:World} {ρ:Rho} {nx fr:Nat} {h:Hp} {t:List AV} {a:Act} {o:Oper} {v:AV}
theorem AR.a0 {u:AV} {z:A0} {V:Value} (h:AR ρ u V)(hz:u.a0=some z):A0R ρ z V:=by
 cases u with
 |c x=>simp only [AV.a0,Option.some.injEq] at hz;subst hz;exact h
 |a l=>simp only [AV.a0,Option.some.injEq] at hz;subst hz;exact h
 |t l=>simp [AV.a0] at hz
theorem ZgX {kt:Nat} {tk:TI} (hT:TyOk P kt tk){q:Bool} (hK:q=true→ZcP P kt tk){k:A0} {K:Value} (hk:A0R ρ k K)(hl:Zai tk q k=true)(em:Bool)(w:World):(Instr.checkKey em 10000 kt K).run P w= .ok () w:=by
 obtain⟨d,hd1,hd2⟩:=hT.und;have key:∀(n:Nat) (X:Value),(∀t v,X≠ .iface t v)→X≠ .nilIface→(∀c,X≠ .agg c)→(match d with| .int _| .string=>True|_=>False)→(Instr.checkKey em (n+1) kt X).run P w= .ok () w:=by
  intro n X h1 h2 h3 hd;cases d<;>first|exact hd.elim|skip
  all_goals
   unfold Instr.checkKey;simp only [Sem.run_bind,run_und hd1,Result.andThen_ok];rfl
 unfold Zai at hl;split at hl
 · rename_i kk kj n hk1
   rw [hk1] at hd2;cases d<;>first|exact hd2.elim|skip
   have e:K= .int kj n:=hk;subst e;exact key 9999 _ (by simp) (by simp) (by simp) trivial
 · rename_i n e l hk1
   simp only [Bool.and_eq_true] at hl;obtain⟨m,rfl,hm⟩:=hk;exact hK hl.1 l m ρ em hl.2 hm w
 · cases hl
def Pr (ρ:Rho)(k:A0)(K:Value)(es:List (A0×A0))(L:List MapEntry)(i:Nat)(r:Option (Nat×Value)):Prop:=
 match ZbA k es with
 |none=>r=none∧∀vc V n,A0R ρ vc V→PW (MR ρ) (ZcI k vc es) (L++[{key:=K,val:=V,born:=n}])
 |some x=>∃j V,r=some (i+j,V)∧A0R ρ x V∧(∃e:MapEntry,L[j]? =some e∧A0R ρ k e.key)∧∀vc W,A0R ρ vc W→PW (MR ρ) (ZcI k vc es) (L.modify j fun e=>{e with key:=K,val:=W})
theorem Pr.nil {k:A0} {K:Value} (hk:A0R ρ k K)(i:Nat):Pr ρ k K [] [] i none:=by
 unfold Pr;exact⟨rfl,fun vc V n hv=>⟨⟨hk,hv⟩,trivial⟩⟩
theorem Pr.hit {k:A0} {K:Value} (hk:A0R ρ k K){e:A0×A0} {m:MapEntry} {es:List (A0×A0)} {L:List MapEntry} (he:e.1=k)(hm:MR ρ e m)(hl:PW (MR ρ) es L)(i:Nat):Pr ρ k K (e::es) (m::L) i (some (i,m.val)):=by
 unfold Pr;simp only [ZbA,if_pos he];refine⟨0,m.val,rfl,hm.2,⟨m,rfl,by rw [←he];exact hm.1⟩,fun vc W hv=> ?_⟩;simp only [ZcI,if_pos he];exact⟨⟨hk,hv⟩,hl⟩
theorem Pr.miss {k:A0} {K:Value} {e:A0×A0} {m:MapEntry} {es:List (A0×A0)} {L:List MapEntry} {r:Option (Nat×Value)} (he:e.1≠k)(hm:MR ρ e m){i:Nat} (h:Pr ρ k K es L (i+1) r):Pr ρ k K (e::es) (m::L) i r:=by
 unfold Pr at*;simp only [ZbA,if_neg he];cases hf:ZbA k es with
 |none=>
  rw [hf] at h;exact⟨h.1,fun vc V n hv=>by simp only [ZcI,if_neg he];exact⟨hm,h.2 vc V n hv⟩⟩
 |some x=>
  rw [hf] at h;obtain⟨j,V,h1,h2,⟨e',h3,h3'⟩,h4⟩:=h;refine⟨j+1,V,by rw [h1];congr 2;omega,h2,⟨e',by simpa using h3,h3'⟩,fun vc W hv=> ?_⟩;simp only [ZcI,if_neg he,List.modify_succ_cons];exact⟨hm,h4 vc W hv⟩
theorem ZkT {d:TypeDesc} {k:A0} {K:Value} (hk:A0R ρ k K)(q:A0→Prop)(hsame:∀e m,A0R ρ e m→q e→Instr.sameNow d K m=some (decide (e=k))):
 ∀(es:List (A0×A0)) (L:List MapEntry) (i:Nat),PW (MR ρ) es L→(∀e∈es,q e.1)→∃r,Instr.findNow d K L i=some r∧Pr ρ k K es L i r
 |[],[],i,_,_=>⟨none,rfl,Pr.nil hk i⟩
 |e::es,m::L,i,hl,hq=>by
  have hs:=hsame e.1 m.key hl.1.1 (hq e (by simp));obtain⟨r,r1,r2⟩:=ZkT hk q hsame es L (i+1) hl.2 (fun e he=>hq e (by simp [he]));by_cases hek:e.1=k
  · refine⟨_,?_,Pr.hit hk hek hl.1 hl.2 i⟩;simp only [Instr.findNow,hs,hek,decide_true]
  · refine⟨r,?_,Pr.miss hek hl.1 r2⟩;simp only [Instr.findNow,hs,hek,decide_false];exact r1
 |[],_::_,_,h,_=>h.elim
 |_::_,[],_,h,_=>h.elim
theorem ZkS {kt:Nat} {k:A0} {K:Value} (hk:A0R ρ k K)(q:A0→Prop)(hsame:∀e m,A0R ρ e m→q e→∀w,(Op.equal kt K m).run P w= .ok (decide (e=k)) w):
 ∀(es:List (A0×A0)) (L:List MapEntry) (i:Nat),PW (MR ρ) es L→(∀e∈es,q e.1)→∃r,(∀w,(Instr.findAsking kt K L i).run P w= .ok r w)∧Pr ρ k K es L i r
 |[],[],i,_,_=>⟨none,fun w=>rfl,Pr.nil hk i⟩
 |e::es,m::L,i,hl,hq=>by
  have hs:=hsame e.1 m.key hl.1.1 (hq e (by simp));obtain⟨r,r1,r2⟩:=ZkS hk q hsame es L (i+1) hl.2 (fun e he=>hq e (by simp [he]));by_cases hek:e.1=k
  · refine⟨_,fun w=> ?_,Pr.hit hk hek hl.1 hl.2 i⟩;simp only [Instr.findAsking,Sem.run_bind,hs,Result.andThen_ok,hek,decide_true,if_true,Sem.run_pure]
  · refine⟨r,fun w=> ?_,Pr.miss hek hl.1 r2⟩;simp only [Instr.findAsking,Sem.run_bind,hs,Result.andThen_ok,hek,decide_false,Bool.false_eq_true,if_false];exact r1 w
 |[],_::_,_,h,_=>h.elim
 |_::_,[],_,h,_=>h.elim
theorem ZkU {kt:Nat} {tk:TI} (hT:TyOk P kt tk){q:Bool} (hQ:q=true→Zct P kt tk){k:A0} {K:Value} (hk:A0R ρ k K)(hl:Zai tk q k=true)
 (es:List (A0×A0)) (L:List MapEntry) (hL:PW (MR ρ) es L) (hall:(es.all fun e=>Zai tk q e.1)=true):
 ∃r,(∀w,(Instr.findKey kt K L).run P w= .ok r w)∧Pr ρ k K es L 0 r:=by
 obtain⟨d,hd1,hd2⟩:=hT.und;have hq:∀e∈es,Zai tk q e.1=true:=List.all_eq_true.1 hall;have scal:(∀e m,A0R ρ e m→Zai tk q e=true→Instr.sameNow d K m=some (decide (e=k)))→∃r,(∀w,(Instr.findKey kt K L).run P w= .ok r w)∧Pr ρ k K es L 0 r:=by
  intro hs;obtain⟨r,r1,r2⟩:=ZkT hk (fun e=>Zai tk q e=true) hs es L 0 hL hq;exact⟨r,fun w=>by simp only [Instr.findKey,Sem.run_bind,run_und hd1,Result.andThen_ok,r1,Sem.run_pure],r2⟩
 cases hkk:tk.k<;>rw [hkk] at hd2<;>first|(unfold Zai at hl;rw [hkk] at hl;simp at hl;done)|skip
 · rename_i kk
   cases d<;>first|exact hd2.elim|skip
   have hd3:kk=_:=hd2;subst hd3;have form:∀e,Zai tk q e=true→∃n,e= .c (.i kk n):=by
    intro e he;cases e with
    |c x=>
     cases x<;>simp [Zai,hkk] at he
     rename_i kj n
     exact⟨n,by rw [he]⟩
    |a l=>simp [Zai,hkk] at he
   obtain⟨n,rfl⟩:=form k hl;refine scal fun e m hem he=> ?_;obtain⟨n',rfl⟩:=form e he;have e1:K= .int kk n:=hk;have e2:m= .int kk n':=hem;subst e1 e2;simp only [Instr.sameNow,if_true];congr 1
   by_cases hnn:n=n'
   · subst hnn;simp
   · have:¬n'=n:=fun e=>hnn e.symm;simp [hnn,this]
 · rename_i n e
   cases d<;>first|exact hd2.elim|skip
   have form:∀e,Zai tk q e=true→q=true∧∃l,e= .a l∧shp tk.zero l=true:=by
    intro e he;cases e with
    |c x=>cases x<;>simp [Zai,hkk] at he
    |a l=>
     simp [Zai,hkk] at he;exact⟨he.1,l,rfl,he.2⟩
   obtain⟨hqt,l,rfl,hshp⟩:=form k hl;obtain⟨M,rfl,hM⟩:=hk;have hk':A0R ρ (.a l) (.agg M.toArray):=⟨M,rfl,hM⟩
   match es,L,hL,hq with
   |[],[],hL,hq=>exact⟨none,fun w=>by simp only [Instr.findKey,Sem.run_bind,run_und hd1,Result.andThen_ok,Instr.findNow,Sem.run_pure],Pr.nil hk' 0⟩
   |e0::es,m0::L,hL,hq=>
    obtain⟨r,r1,r2⟩:=ZkS (P:=P) (kt:=kt) hk' (fun e=>Zai tk q e=true) (fun e m hem he w=>by
     obtain⟨_,l',rfl,hs'⟩:=form e he;obtain⟨M',rfl,hM'⟩:=hem;have:=((hQ hqt) l l' M M' ρ hshp hs' hM hM').1 w;rw [this];congr 1
     by_cases hll:l=l'
     · subst hll;simp
     · have h2:¬l'=l:=fun e=>hll e.symm;simp [hll,h2]) (e0::es) (m0::L) 0 hL hq
    refine⟨r,fun w=> ?_,r2⟩;have hnone:∀i,Instr.findNow (.array n e) (.agg M.toArray) (m0::L) i=none:=fun i=>by simp [Instr.findNow,Instr.sameNow]
    obtain⟨rfl,rfl⟩:=hd2;simp only [Instr.findKey,Sem.run_bind,run_und hd1,Result.andThen_ok,hnone];exact r1 w
   |[],_::_,h,_=>exact h.elim
   |_::_,[],h,_=>exact h.elim
end
end Ev
namespace Ev
section
variable {P:Program} {E:Env} {n0:Nat} {w0 w:World} {ρ:Rho} {nx fr:Nat} {h:Hp} {t:List AV} {a:Act} {o:Oper} {v:AV}
theorem bs_beq (x:List UInt8):(Bs x==Bs x)=true:=by
 show((Bs x).data==(Bs x).data)=true
 simp
theorem Zkf {kt:Nat} {tk:TI} (hT:TyOk P kt tk){q:Bool} (hK:q=true→ZcP P kt tk∨∀n e,tk.k≠ .ar n e){k:A0} {K:Value} (hk:A0R ρ k K)(hl:Zai tk q k=true)(em:Bool)(w:World):(Instr.checkKey em 10000 kt K).run P w= .ok () w:=by
 by_cases hqq:q=true
 · rcases hK hqq with h|h
   · exact ZgX hT (fun _=>h) hk hl em w
   · have hl2:Zai tk false k=true:=by
      unfold Zai at*;split at hl
      · exact hl
      · rename_i n e l hkk;exact absurd hkk (h n e)
      · cases hl
     exact ZgX hT (fun h=>by cases h) hk hl2 em w
 · exact ZgX hT (fun h=>absurd h hqq) hk hl em w
theorem Zf7:∀{z l:List Cl} {m m':List Value},shp z l=true→LR ρ l m→LR ρ l m'→m=m'∧∀n:Nat,((m.zip m).all fun x=>Instr.sameBits n x.1 x.2)=true
 |[],[],[],[],_,_,_=>⟨rfl,fun _=>rfl⟩
 | .b _::z,.b x::l,y::m,y'::m',hs,h,h'=>by
  obtain⟨e1,e2⟩:=Zf7 (z:=z) (by simpa [shp] using hs) h.2 h'.2;have f1:y= .bool x:=h.1;have f2:y'= .bool x:=h'.1;subst f1 f2 e1;exact⟨rfl,fun n=>by simp only [List.zip_cons_cons,List.all_cons,e2,Bool.and_true];cases n<;>simp [Instr.sameBits]⟩
 | .i _ _::z,.i k x::l,y::m,y'::m',hs,h,h'=>by
  obtain⟨e1,e2⟩:=Zf7 (z:=z) (by simp [shp] at hs;exact hs.2) h.2 h'.2;have f1:y= .int k x:=h.1;have f2:y'= .int k x:=h'.1;subst f1 f2 e1;exact⟨rfl,fun n=>by simp only [List.zip_cons_cons,List.all_cons,e2,Bool.and_true];cases n<;>simp [Instr.sameBits]⟩
 | .s _::z,.s x::l,y::m,y'::m',hs,h,h'=>by
  obtain⟨e1,e2⟩:=Zf7 (z:=z) (by simpa [shp] using hs) h.2 h'.2;have f1:y= .string (Bs x):=h.1;have f2:y'= .string (Bs x):=h'.1;subst f1 f2 e1;exact⟨rfl,fun n=>by simp only [List.zip_cons_cons,List.all_cons,e2,Bool.and_true];cases n<;>exact bs_beq x⟩
 |[],[],_::_,_,_,h,_=>h.elim
 |[],[],[],_::_,_,_,h=>h.elim
 |[],_::_,_,_,hs,_,_=>by simp [shp] at hs
 |_::_,[],_,_,hs,_,_=>by simp [shp] at hs
 |_,_::_,[],_,_,h,_=>h.elim
 |_,_::_,_::_,[],_,_,h=>h.elim
theorem A0R.same {tk:TI} {q:Bool} {k:A0} {K K':Value} (hl:Zai tk q k=true)(h:A0R ρ k K)(h':A0R ρ k K'):K=K'∧Instr.sameBits 10000 K K'=true:=by
 unfold Zai at hl;split at hl
 · rename_i kk kj n hk
   have e1:K= .int kj n:=h;have e2:K'= .int kj n:=h';subst e1 e2;exact⟨rfl,by simp [Instr.sameBits]⟩
 · rename_i n e l hk
   simp only [Bool.and_eq_true] at hl;obtain⟨m,rfl,hm⟩:=h;obtain⟨m',rfl,hm'⟩:=h';obtain⟨e1,e2⟩:=Zf7 hl.2 hm hm';subst e1;have key:∀d,Instr.sameBits (d+1) (.agg m.toArray) (.agg m.toArray)=true:=fun d=>by
    simp only [Instr.sameBits,beq_self_eq_true,Bool.true_and];exact e2 d
   exact⟨rfl,key 9999⟩
 · cases hl
theorem mk_zero {te:TI} {e:Nat} (hT:TyOk P e te){zv:AV} (hm:mk te te.zero=some zv):∃z,(∀w,(zeroValue e).run P w= .ok z w)∧AR ρ zv z:=by
 obtain⟨z,z1,z2,z3,z4⟩:=hT.zero;obtain⟨m1,m2⟩:=ZhV hm (z2 ρ);refine⟨z,z1,?_⟩;cases ha:te.k.agg with
 |true=>
  obtain⟨m,rfl⟩:=z3 ha;have:=m1 ha;simpa [Value.cells] using this
 |false=>
  obtain⟨x,h1,h2⟩:=m2 ha;have hz:=z4 ha;have:z.cells=#[z]:=by cases z<;>first|rfl|exact absurd rfl (hz _)
  rw [this] at h1;simp at h1;rw [h1];exact h2
theorem ZfO {b:Nat} {L:List MapEntry} {ck:Nat} (h:w.heap[b]? =some (.map L.toArray ck)):(getObj b).run P w= .ok (.map L.toArray ck) w:=by
 simp only [getObj,Sem.run,h]
theorem map_set {b:Nat} {L:List MapEntry} {ck:Nat} (h:w.heap[b]? =some (.map L.toArray ck))(ob:Obj):(setObj b ob).run P w= .ok () {w with heap:=w.heap.setIfInBounds b ob}:=by
 simp only [setObj,Sem.run,h]
theorem Zrf (hE:∀t ti,E.ty t=some ti→TyOk P t ti)(hq:∀t ti,E.eqt t=true→E.ty t=some ti→Zct P t ti∧(∀n e,ti.k= .ar n e→ZcP P t ti))(ht:TR ρ t a)(hI:IV n0 w0 ρ nx h w){ty:Nat} {x k:Operand} {ok:Bool} (ho:o.op= .lookup ty x k ok){h':Hp} (hh:eff E fr t h o.op=some (v,h')):
 Zax P n0 w0 ρ nx fr a o v h' w:=by
 rw [ho] at hh;simp only [eff,ZkB] at hh;obtain⟨ti,h1,hh⟩:=Zc hh;obtain⟨d,hd1,hd2⟩:=(hE _ _ h1).und;split at hh
 case h_2=>cases hh
 rename_i kt e i hk hx
 rw [hk] at hd2;cases d<;>first|exact hd2.elim|skip
 obtain⟨tk,h2,hh⟩:=Zc hh;obtain⟨te,h3,hh⟩:=Zc hh;obtain⟨kv,h4,hh⟩:=Zc hh;obtain⟨kc,h5,hh⟩:=Zc hh;obtain⟨zv,h6,hh⟩:=Zc hh;obtain⟨z,h7,hh⟩:=Zc hh;split at hh
 case h_2=>cases hh
 rename_i es hlk
 split at hh
 case isFalse=>cases hh
 rename_i hs
 simp only [Option.some.injEq,Prod.mk.injEq] at hh;obtain⟨rfl,rfl⟩:=hh;obtain⟨rfl,rfl⟩:=hd2;obtain⟨b,c,q1,L,ck,q2,q3⟩:=hI.ob _ (ZaS hlk);obtain⟨b',c',q4,hX⟩:∃b c,ρ i=some (b,c)∧a.eval x= .map (some b):=Zh ht hx;simp only at q1;rw [q1] at q4;injection q4 with q4
 injection q4 with q4 q5
 subst q4;have hK:=AR.a0 (Zh ht h4) h5;unfold Zf5 at hs;simp only [Bool.and_eq_true] at hs;have hkt:∀(hqq:E.eqt kt=true),ZcP P kt tk∨∀n e,tk.k≠ .ar n e:=fun hqq=>by
  by_cases har:∃n e,tk.k= .ar n e
  · obtain⟨n,e,har⟩:=har;exact .inl ((hq _ _ hqq h2).2 n e har)
  · exact .inr fun n e h=>har ⟨n,e,h⟩
 have hck:=fun(em:Bool) w=>Zkf (P:=P) (hE _ _ h2) hkt hK hs.1 em w;obtain⟨r,r1,r2⟩:=ZkU (hE _ _ h2) (fun hqq=>(hq _ _ hqq h2).1) hK hs.1 es L q3 hs.2;obtain⟨zV,z1,z2⟩:=mk_zero (ρ:=ρ) (hE _ _ h3) h6;have hz:=AR.a0 z2 h7;have hrun:∃V,A0R ρ ((ZbA kc es).getD z) V∧(Instr.lookup ty (a.eval x) (a.eval k) ok).run P w= .ok (if ok then .tuple #[V,.bool (ZbA kc es).isSome] else V) w:=by
  unfold Pr at r2;cases hf:ZbA kc es with
  |none=>
   rw [hf] at r2;refine⟨zV,hz,?_⟩;simp only [Instr.lookup,Sem.run_bind,run_und hd1,Result.andThen_ok,hX,ZfO q2,Sem.run_pure,hck,r1,r2.1,z1];rfl
  |some y=>
   rw [hf] at r2;obtain⟨j,V,s1,s2,_⟩:=r2;refine⟨V,s2,?_⟩;simp only [Instr.lookup,Sem.run_bind,run_und hd1,Result.andThen_ok,hX,ZfO q2,Sem.run_pure,hck,r1,s1];rfl
 obtain⟨V,hV,hr⟩:=hrun;have hexec:execOp a.eval o=(do let v←Instr.lookup ty (a.eval x) (a.eval k) ok;pure (.value v)):=by
  unfold execOp;simp only [ho]
 cases ok with
 |true=>exact ZbX hexec ⟨[V,.bool (ZbA kc es).isSome],rfl,hV,rfl,trivial⟩ hr hI
 |false=>exact ZbX hexec hV.av hr hI
theorem Zri (hE:∀t ti,E.ty t=some ti→TyOk P t ti)(hq:∀t ti,E.eqt t=true→E.ty t=some ti→Zct P t ti∧(∀n e,ti.k= .ar n e→ZcP P t ti))(ht:TR ρ t a)(hI:IV n0 w0 ρ nx h w){ty:Nat} {x k y:Operand} (ho:o.op= .mapUpdate ty x k y){h':Hp} (hh:eff E fr t h o.op=some (v,h')):
 Zax P n0 w0 ρ nx fr a o v h' w:=by
 rw [ho] at hh;simp only [eff,ZkE] at hh;obtain⟨ti,h1,hh⟩:=Zc hh;obtain⟨d,hd1,hd2⟩:=(hE _ _ h1).und;split at hh
 case h_2=>cases hh
 rename_i kt e i hk hx
 rw [hk] at hd2;cases d<;>first|exact hd2.elim|skip
 obtain⟨tk,h2,hh⟩:=Zc hh;obtain⟨kv,h4,hh⟩:=Zc hh;obtain⟨kc,h5,hh⟩:=Zc hh;obtain⟨vv,h6,hh⟩:=Zc hh;obtain⟨vc,h7,hh⟩:=Zc hh;split at hh
 case h_2=>cases hh
 rename_i es hlk
 split at hh
 case isFalse=>cases hh
 rename_i hs
 simp only [Option.some.injEq,Prod.mk.injEq] at hh;obtain⟨rfl,rfl⟩:=hh;obtain⟨rfl,rfl⟩:=hd2;obtain⟨b,c,q1,L,ck,q2,q3⟩:=hI.ob _ (ZaS hlk);obtain⟨b',c',q4,hX⟩:∃b c,ρ i=some (b,c)∧a.eval x= .map (some b):=Zh ht hx;simp only at q1;rw [q1] at q4;injection q4 with q4
 injection q4 with q4 q5
 subst q4;have hK:=AR.a0 (Zh ht h4) h5;have hV:=AR.a0 (Zh ht h6) h7;unfold Zf5 at hs;simp only [Bool.and_eq_true] at hs;have hkt:∀(hqq:E.eqt kt=true),ZcP P kt tk∨∀n e,tk.k≠ .ar n e:=fun hqq=>by
  by_cases har:∃n e,tk.k= .ar n e
  · obtain⟨n,e,har⟩:=har;exact .inl ((hq _ _ hqq h2).2 n e har)
  · exact .inr fun n e h=>har ⟨n,e,h⟩
 have hck:=fun(em:Bool) w=>Zkf (P:=P) (hE _ _ h2) hkt hK hs.1 em w;obtain⟨r,r1,r2⟩:=ZkU (hE _ _ h2) (fun hqq=>(hq _ _ hqq h2).1) hK hs.1 es L q3 hs.2;have hrun:∃(L':List MapEntry) (ck':Nat),PW (MR ρ) (ZcI kc vc es) L'∧(Instr.mapUpdate ty (a.eval x) (a.eval k) (a.eval y)).run P w= .ok () {w with heap:=w.heap.setIfInBounds b (.map L'.toArray ck')}:=by
  unfold Pr at r2;cases hf:ZbA kc es with
  |none=>
   rw [hf] at r2;refine⟨_,ck+1,r2.2 vc (a.eval y) ck hV,?_⟩;simp only [Instr.mapUpdate,Sem.run_bind,run_und hd1,Result.andThen_ok,hX,ZfO q2,hck,r1,r2.1,map_set q2];congr 4
   apply Array.ext'
   simp
  |some u=>
   rw [hf] at r2;obtain⟨j,V,s1,s2,⟨e',s3,s3'⟩,s4⟩:=r2;obtain⟨k1,k2⟩:=A0R.same hs.1 s3' hK;refine⟨_,ck,s4 vc (a.eval y) hV,?_⟩;rw [Nat.zero_add] at s1;have hkeep:(Instr.keyThatStays (((L.toArray[j]?).map (·.key)).getD (a.eval k)) (a.eval k)).run P w= .ok (a.eval k) w:=by
    have:((L.toArray[j]?).map (·.key)).getD (a.eval k)=e'.key:=by simp [s3]
    rw [this];simp [Instr.keyThatStays,k2]
   simp only [Instr.mapUpdate,Sem.run_bind,run_und hd1,Result.andThen_ok,hX,ZfO q2,hck,r1,s1,hkeep,map_set q2];congr 4
   apply Array.ext'
   simp
 obtain⟨L',ck',p1,p2⟩:=hrun;refine⟨ρ,{w with heap:=w.heap.setIfInBounds b (.map L'.toArray ck')},undef,Zed ρ,.inr ⟨rfl,?_⟩,
  hI.turn (x:= .mp (ZcI kc vc es)) q1 ⟨_,ZaS hlk⟩ rfl rfl rfl (by simp) (fun k hk=>by simp only [Array.getElem?_setIfInBounds];rw [if_neg (fun e=>hk e.symm)]) ⟨L',ck',?_,p1⟩,ρ.le_refl,fun _ _=>rfl⟩
 · unfold execOp;simp only [ho,Sem.run_bind,p2,Result.andThen_ok,Sem.run_pure]
 · show(w.heap.setIfInBounds b _)[b]? =_
   have hb:=(Array.getElem?_eq_some_iff.1 q2).1;simp [hb]
theorem Zrl (hE:∀t ti,E.ty t=some ti→TyOk P t ti)(ht:TR ρ t a)(hI:IV n0 w0 ρ nx h w){ty:Nat} {x:Operand} {lo hi mx:Option Operand} (ho:o.op= .slice ty x lo hi mx){h':Hp} (hh:eff E fr t h o.op=some (v,h')):
 Zax P n0 w0 ρ nx fr a o v h' w:=by
 rw [ho] at hh;cases mx with
 |some q=>simp [eff] at hh
 |none=>
 simp only [eff,ZkG] at hh;obtain⟨ti,h1,hh⟩:=Zc hh;obtain⟨d,hd1,hd2⟩:=(hE _ _ h1).und;split at hh
 case h_2=>cases hh
 rename_i n e i off hk hx
 rw [hk] at hd2;cases d<;>first|exact hd2.elim|skip
 obtain⟨te,h2,hh⟩:=Zc hh;obtain⟨p,h3,hh⟩:=Zc hh;obtain⟨q,h4,hh⟩:=Zc hh;split at hh
 case h_2=>cases hh
 rename_i l tt hlk hsz
 split at hh
 case isFalse=>cases hh
 rename_i hc
 simp only [Option.some.injEq,Prod.mk.injEq] at hh;obtain⟨rfl,rfl⟩:=hh;obtain⟨rfl,rfl⟩:=hd2;obtain⟨b,c,q1,m,rest,fz,q2,q3,q4,q5,_⟩:=hI.ob _ (ZaS hlk);obtain⟨b',c',q6,hX⟩:∃b c,ρ i=some (b,c)∧a.eval x= .pointer (some ⟨b,off,none⟩):=Zh ht hx;simp only at q1;rw [q1] at q6;injection q6 with q6
 injection q6 with q6 q7
 subst q6;have hr:=q4 rfl;subst hr;rw [List.append_nil,Nat.mul_one,←q3.len] at q5;have hb:=fun w=>Zf3 (P:=P) (a:=a) (cap:=n) false ht h3 h4 hc.2.1 hc.2.2 w;have hTe:=hE _ _ h2;have hexec:execOp a.eval o=(do let v←Instr.sliceAt ty (a.eval x) (lo.map a.eval) (hi.map a.eval) none;pure (.value v)):=by
  unfold execOp;simp only [ho];rfl
 have hcap:n - p=c - (l.length - (n - p)):=by omega
 by_cases hn:n=p
 · refine ZbX (V:= .slice (some ⟨b,off,none⟩) (q - p) (n - p)) hexec ⟨b,c,off,q1,by omega,fun hh=> ?_,by rw [←hcap]⟩ ?_ hI
   · rcases hh with hh|hh
     · omega
     · omega
   · simp only [Instr.sliceAt,Sem.run_bind,run_und hd1,Result.andThen_ok,hX,Instr.sureAddr,Sem.run_pure,hb,hTe.sizeOf,if_pos hn]
 · refine ZbX (V:= .slice (some ⟨b,off+p,none⟩) (q - p) (n - p)) hexec ⟨b,c,off+p,q1,by omega,fun hh=>rfl,by rw [←hcap]⟩ ?_ hI;simp only [Instr.sliceAt,Sem.run_bind,run_und hd1,Result.andThen_ok,hX,Instr.sureAddr,Sem.run_pure,hb,hTe.sizeOf,if_neg hn,hsz,Nat.mul_one,add_eq]
theorem eff_ok (hE:∀t ti,E.ty t=some ti→TyOk P t ti)(hq:∀t ti,E.eqt t=true→E.ty t=some ti→Zct P t ti∧(∀n e,ti.k= .ar n e→ZcP P t ti))(hG:GOk E n0 w0)(ht:TR ρ t a)(hI:IV n0 w0 ρ nx h w)(hf:fr<nx)(hn:ρ fr=none){h':Hp} (hh:eff E fr t h o.op=some (v,h')):
 Zax P n0 w0 ρ nx fr a o v h' w:=by
 cases ho:o.op with
 |alloc e=>exact Zq8 hE hI hf hn ho hh
 |box e x=>exact Zrb ht hI hf hn ho hh
 |buildSlice ty n ps=>exact Zrc hE ht hI hf hn ho hh
 |load ty x=>exact Zre hE hG ht hI ho hh
 |store ty x y=>exact Zrm hE ht hI ho hh
 |makeSlice ty x y=>exact Zrh hE ht hI hf hn ho hh
 |makeMap ty x=>exact Zrg hI hf hn ho hh
 |slice ty x lo hi mx=>exact Zrl hE ht hI ho hh
 |convert s d x=>exact Zrd hE hG ht hI hf hn ho hh
 |range ty x=>exact Zrk hE ht hI hf hn ho hh
 |next x b=>exact Zrj ht hI ho hh
 |lookup ty x k ok=>exact Zrf hE hq ht hI ho hh
 |mapUpdate ty x k y=>exact Zri hE hq ht hI ho hh
 |call c=>
  cases hc:c.callee with
  |builtin b=>
   cases b<;>first|exact Zra hE hG ht hI hf hn hc ho hh|(rw [ho] at hh;simp [eff,Zfs,hc] at hh)
  |_=>rw [ho] at hh;simp [eff,Zfs,hc] at hh
 |_=>rw [ho] at hh;simp [eff] at hh
end
end Ev
namespace Ev
noncomputable section
inductive Ex where
 |nrm|exit (id:Nat)|ret
 deriving DecidableEq
abbrev R3:=AV×Nat×Hp
abbrev ZaX:=Nat→List AV→Nat→Hp→Option R3
def evs (t:List AV):List Operand→Option (List AV)
 |[]=>some []
 |x::l=>opt (ev t x) fun v=>opt (evs t l) fun r=>some (v::r)
def pAV:List (Nat×Nat)→List AV
 |[]=>[]
 |(i,o)::l=> .c (.p i o)::pAV l
def Zkc (cf:ZaX)(t:List AV)(nx:Nat)(h:Hp):Op→Option R3
 | .call c=>match c.callee with
  | .value f=>match ev t f with
   |some (.c (.fn k fs cs))=>opt (evs t c.args.toList) fun l=>cf k (pAV fs++(l++pAV cs)) nx h
   |_=>none
  |_=>none
 |_=>none
def insH (x:Nat×Ob)(l:Hp):Hp:=List.rec (motive:=fun _=>Hp) [x] (fun y r ih=>cond (Nat.blt x.1 y.1) (y::ih) (x::y::r)) l
def nrmH (h:Hp):Hp:=match h with
 |[]=>[]
 |x::l=>insH x l
def stp (E:Env)(cf:ZaX)(fr:Nat)(t:List AV)(nx:Nat)(h:Hp)(op:Op):Option R3:=
 match pop E t op with
 |some v=>some (v,nx,h)
 |none=>match eff E fr t h op with
  |some (v,h')=>some (v,nx,nrmH h')
  |none=>Zkc cf t nx h op
def Zcm (d:Option Nat)(v:AV)(t:List AV):List AV:=match d with
 |some i=>setN v t i
 |none=>t
def ZeV (ops:List Oper)(t:List AV)(o:Oper):Bool:=match o.guard with
 |none=>true
 |some (j,y)=>match ZaB ops j with
  |some oj=>match oj.dst with
   |some d=>match ZaB t d with
    |some (.c (.b x))=>x==y
    |_=>false
   |none=>false
  |none=>false
def Zid (E:Env)(cf:ZaX)(ops:List Oper)(o:Oper)(ih:List AV→Nat→Hp→Option (List AV×Nat×Hp))(t:List AV)(nx:Nat)(h:Hp):Option (List AV×Nat×Hp):=
 if ZeV ops t o then(match stp E cf nx t (nx+1) h o.op with
  |some (v,nx',h')=>ih (Zcm o.dst v t) nx' h'
  |none=>none) else ih (Zcm o.dst (.t []) t) nx h
def regS (E:Env)(cf:ZaX)(ops:List Oper)(l:List Oper):List AV→Nat→Hp→Option (List AV×Nat×Hp):=
 List.rec (motive:=fun _=>List AV→Nat→Hp→Option (List AV×Nat×Hp)) (fun t nx h=>some (t,nx,h)) (fun o _ ih=>Zid E cf ops o ih) l
abbrev Lds:=List (Nat×Nat×List Cl)
def fcl:Cl→Bool
 | .sl _ _ len cut=>len !=0||cut==0
 |_=>true
def ldOf (E:Env)(base:Nat)(t:List AV)(h:Hp):Op→Option (AV×Lds)
 | .load ty x=>opt (E.ty ty) fun ti=>match ev t x with
  |some (.c (.p i o))=>if i<base then opt (ZbK E h (.c (.p i o)) ti.size) fun l=>if l.all fcl then opt (mk ti l) fun v=>some (v,[(i,o,l)]) else none else none
  |some (.c (.g i o))=>opt (ZbK E h (.c (.g i o)) ti.size) fun l=>opt (mk ti l) fun v=>some (v,[])
  |_=>none
 |_=>none
def quiet (E:Env)(q:Bool)(ops:List Oper)(base:Nat)(t:List AV)(h:Hp)(o:Oper):Option (AV×Lds):=
 if ZeV ops t o then match pop E t o.op with
  |some v=>some (v,[])
  |none=>if q then ldOf E base t h o.op else none
 else some (.t [],[])
def pick (E:Env)(q:Bool)(ops:List Oper)(listed:Array Bool)(base:Nat)(t:List AV)(h:Hp):List Nat→Option (Nat×Oper×AV×Lds)
 |[]=>none
 |i::r=>match ZaB ops i with
  |some o=>match quiet E q ops base t h o with
   |some (v,l)=>if Region.free .any ops.toArray listed i then some (i,o,v,l) else pick E q ops listed base t h r
   |none=>pick E q ops listed base t h r
  |none=>pick E q ops listed base t h r
structure RO where
 t:List AV
 nx:Nat
 h:Hp
 ld:Lds
 hs:List Hp
def stpW (E:Env)(cf:ZaX)(ops:List Oper)(fr:Nat)(t:List AV)(nx:Nat)(h:Hp)(o:Oper):Option R3:=
 if ZeV ops t o then stp E cf fr t nx h o.op else some (.t [],nx,h)
def Zc4 (E:Env)(q:Bool)(cf:ZaX)(ops:List Oper)(base:Nat):Nat→Array Bool→List AV→Nat→Hp→Option RO
 |0,listed,t,nx,h=>match Region.ready .any ops.toArray listed with
  |[]=>some ⟨t,nx,h,[],[]⟩
  |_=>none
 |n+1,listed,t,nx,h=>match Region.ready .any ops.toArray listed with
  |[]=>some ⟨t,nx,h,[],[]⟩
  |rs=>match pick E q ops listed base t h rs with
   |some (i,o,v,l)=>opt (Zc4 E q cf ops base n (listed.setIfInBounds i true) (Zcm o.dst v t) nx h) fun r=>some {r with ld:=l++r.ld}
   |none=>match rs with
    |[i]=>opt (ZaB ops i) fun o=>opt (stpW E cf ops (base+i) t nx h o) fun s=>opt (Zc4 E q cf ops base n (listed.setIfInBounds i true) (Zcm o.dst s.1 t) s.2.1 s.2.2) fun r=>some {r with hs:=s.2.2::r.hs}
    |[i,j]=>opt (ZaB ops i) fun o=>opt (stpW E cf ops (base+i) t nx h o) fun s=>opt (Zc4 E q cf ops base n (listed.setIfInBounds i true) (Zcm o.dst s.1 t) s.2.1 s.2.2) fun r=>
     opt (ZaB ops j) fun o2=>opt (stpW E cf ops (base+j) t nx h o2) fun s2=>opt (Zc4 E q cf ops base n (listed.setIfInBounds j true) (Zcm o2.dst s2.1 t) s2.2.1 s2.2.2) fun r2=>
      if r.t=r2.t∧r.nx=r2.nx∧r.h=r2.h then some {r with ld:=r.ld++r2.ld,hs:=s.2.2::s2.2.2::(r.hs++r2.hs)} else none
    |_=>none
def ZbN (E:Env)(base:Nat)(ld:Lds)(h:Hp):Bool:=ld.all fun x=>decide (x.1<base)&&x.2.2.all fcl&&decide (ZbK E h (.c (.p x.1 x.2.1)) x.2.2.length=some x.2.2)
def regQ (E:Env)(q:Bool)(cf:ZaX)(ops:List Oper)(t:List AV)(nx:Nat)(h:Hp):Option (List AV×Nat×Hp):=
 if Region.noSelect ops.toArray then opt (Zc4 E q cf ops nx ops.length (Array.replicate ops.length false) t (nx+ops.length) h) fun r=>if(h::r.hs).all (ZbN E nx r.ld) then some (r.t,r.nx,r.h) else none else none
def regD (E:Env)(cf:ZaX)(ops:List Oper)(t:List AV)(nx:Nat)(h:Hp):Option (List AV×Nat×Hp):=
 match regQ E true cf ops t nx h with
 |some r=>some r
 |none=>regQ E false cf ops t nx h
def Zbw (b:Nat):List Cl→List Nat
 |[]=>[]
 | .p i _::l=>if b≤i then i::Zbw b l else Zbw b l
 | .sl i _ _ _::l=>if b≤i then i::Zbw b l else Zbw b l
 | .m i::l=>if b≤i then i::Zbw b l else Zbw b l
 | .fn _ fs cs::l=>fs.map (·.1)++(cs.map (·.1)++Zbw b l)
 |_::l=>Zbw b l
def ZgN (b:Nat):List A0→List Nat
 |[]=>[]
 | .c x::l=>Zbw b [x]++ZgN b l
 | .a m::l=>Zbw b m++ZgN b l
def avIds (b:Nat):AV→List Nat
 | .c x=>Zbw b [x]
 | .a l=>Zbw b l
 | .t l=>ZgN b l
def obIds (b:Nat):Ob→List Nat
 | .cl l _ _ _=>Zbw b l
 |_=>[]
def reach (b:Nat)(h:Hp):Nat→List Nat→List Nat→List Nat
 |0,_,acc=>acc
 |n+1,now,acc=>match now.flatMap fun i=>match look h i with|some o=>obIds b o|none=>[] with
  |[]=>acc
  |nw=>reach b h n nw (nw++acc)
def Z0 (b:Nat)(ids:List Nat):Hp→Hp
 |[]=>[]
 |x::l=>if x.1<b then x::Z0 b ids l else if ids.contains x.1 then x::Z0 b ids l else Z0 b ids l
def gc (b:Nat)(v:AV)(h:Hp):Hp:=
 let ids:=avIds b v
 Z0 b (reach b h 6 ids ids) h
def Zc5 (E:Env)(t:List AV)(h:Hp):List ResultVar→Option (List AV)
 |[]=>some []
 | .tmp i::l=>opt (ZaB t i) fun v=>opt (Zc5 E t h l) fun r=>some (v::r)
 | .cell i ty::l=>opt (E.ty ty) fun ti=>opt (ZaB t i) fun x=>opt (ZbK E h x ti.size) fun c=>opt (mk ti c) fun v=>opt (Zc5 E t h l) fun r=>some (v::r)
def a0s:List AV→Option (List A0)
 |[]=>some []
 |v::l=>opt v.a0 fun x=>opt (a0s l) fun r=>some (x::r)
def ZfU:List AV→Option AV
 |[v]=>some v
 |l=>opt (a0s l) fun r=>some (.t r)
def cl (E:Env)(orc:Nat→List AV→Hp→Option AV)(esc:Nat→Bool)(run:Code→List AV→Nat→Hp→Option (Ex×List AV×Nat×Hp)):ZaX:=fun f args nx h=>
 opt (E.fn f) fun F=>opt F.body fun c=>match orc f args h with
 |some v=>some (v,nx,h)
 |none=>match run c (args++List.replicate (F.ntmps - args.length) (.t [])) nx h with
  |some (e,t',nx',h')=>match e with
   | .exit _=>none
   |_=>opt (Zc5 E t' h' F.results.toList) fun l=>opt (ZfU l) fun v=>some (v,nx',if esc f then h' else gc nx v h')
  |none=>none
abbrev Zcw:=Code→List AV→Nat→Hp→Option (Ex×List AV×Nat×Hp)
def fin (m:Nat)(s:List AV×Nat×Hp):Option (Ex×List AV×Nat×Hp):=
 cond (Nat.beq (m % 16) 0) (frc s.1 fun t=>frc s.2.2 fun h=>some (.nrm,t,s.2.1,h)) (some (.nrm,s))
def xReg (E:Env)(m:Nat)(cf:ZaX)(ops:List Oper)(t:List AV)(nx:Nat)(h:Hp):Option (Ex×List AV×Nat×Hp):=opt (regS E cf ops ops t nx h) (fin m)
def Zi3 (E:Env)(cf:ZaX)(ops:List Oper)(t:List AV)(nx:Nat)(h:Hp):Option (Ex×List AV×Nat×Hp):=opt (regD E cf ops t nx h) fun s=>some (.nrm,s)
def xSeq (ih:Zcw)(a b:Code)(t:List AV)(nx:Nat)(h:Hp):Option (Ex×List AV×Nat×Hp):=match ih a t nx h with
 |some (.nrm,t',nx',h')=>ih b t' nx' h'
 |r=>r
def Zi1 (ih:Zcw)(x:Operand)(a b:Code)(t:List AV)(nx:Nat)(h:Hp):Option (Ex×List AV×Nat×Hp):=match evB t x with
 |some true=>ih a t nx h
 |some false=>ih b t nx h
 |none=>none
def Zi0 (ih:Zcw)(id:Nat)(b:Code)(t:List AV)(nx:Nat)(h:Hp):Option (Ex×List AV×Nat×Hp):=match ih b t nx h with
 |some (.exit id',s)=>if id'=id then some (.nrm,s) else some (.exit id',s)
 |r=>r
def Zi2 (ih:Zcw)(b:Code)(t:List AV)(nx:Nat)(h:Hp):Option (Ex×List AV×Nat×Hp):=match ih b t nx h with
 |some (.nrm,t',nx',h')=>ih (.loop b) t' nx' h'
 |r=>r
def ZdV (E:Env)(orc:Nat→List AV→Hp→Option AV)(esc:Nat→Bool)(m:Nat)(ih:Zcw)(c:Code)(t:List AV)(nx:Nat)(h:Hp):Option (Ex×List AV×Nat×Hp):=match c with
 | .skip=>some (.nrm,t,nx,h)
 | .label _=>some (.nrm,t,nx,h)
 | .region _ ops false=>xReg E m (cl E orc esc ih) ops.toList t nx h
 | .region _ ops true=>Zi3 E (cl E orc esc ih) ops.toList t nx h
 | .seq a b=>xSeq ih a b t nx h
 | .cond x a b=>Zi1 ih x a b t nx h
 | .block id b=>Zi0 ih id b t nx h
 | .loop b=>Zi2 ih b t nx h
 | .exit id=>some (.exit id,t,nx,h)
 | .ret=>some (.ret,t,nx,h)
 |_=>none
def ex (E:Env)(orc:Nat→List AV→Hp→Option AV)(esc:Nat→Bool)(n:Nat):Zcw:=
 Nat.rec (motive:=fun _=>Zcw) (fun _ _ _ _=>none) (fun m ih=>ZdV E orc esc m ih) n
def run (E:Env)(orc:Nat→List AV→Hp→Option AV)(esc:Nat→Bool)(n f:Nat)(args:List AV):Option AV:=
 opt (cl E orc esc (ex E orc esc n) f args 0 []) fun r=>some r.1
end
end Ev
namespace Ev
structure EOk (P:Program)(E:Env)(n0:Nat)(w0:World):Prop where
 ty:∀t ti,E.ty t=some ti→TyOk P t ti
 eq:∀t ti,E.eqt t=true→E.ty t=some ti→Zct P t ti∧(∀n e,ti.k= .ar n e→ZcP P t ti)
 gl:GOk E n0 w0
 fn:∀f F,E.fn f=some F→P.funcs[f]? =some F∧(F.name== "runtime.NumGoroutine")=false
 mixed:P.follows .mixedOrders=true
def CPost (n0:Nat)(w0:World)(ρ:Rho)(nx:Nat)(v:AV)(nx':Nat)(h':Hp)(e:Ending)(w':World):Prop:=
 ∃ρ' V,e= .returned V∧AR ρ' v V∧IV n0 w0 ρ' nx' h' w'∧nx≤nx'∧∀i,i<nx→ρ' i=ρ i
def Zdb (P:Program)(n0:Nat)(w0:World)(cf:ZaX):Prop:=
 ∀f args nx h v nx' h',cf f args nx h=some (v,nx',h')→(∃F,P.funcs[f]? =some F∧(F.name== "runtime.NumGoroutine")=false∧F.body.isNone=false)∧
  ∀ρ w (A:List Value),IV n0 w0 ρ nx h w→PW (AR ρ) args A→Calls P f A.toArray w (CPost n0 w0 ρ nx v nx' h')
section
variable {P:Program} {E:Env} {n0:Nat} {w0 w:World} {ρ:Rho} {nx fr:Nat} {h:Hp} {t:List AV} {a:Act} {o:Oper} {v:AV} {cf:ZaX}
theorem Zr4 {ρ':Rho} (hI:IV n0 w0 ρ nx h w)(hag:∀i,i<nx→ρ' i=ρ i):ρ.le ρ':=by
 intro i x hx;by_cases hi:i<nx
 · rw [hag i hi];exact hx
 · rw [hI.fresh i (by omega)] at hx;cases hx
theorem ZkM (ht:TR ρ t a):∀{l:List Operand} {r:List AV},evs t l=some r→PW (AR ρ) r (l.map a.eval)
 |[],r,h=>by simp only [evs,Option.some.injEq] at h;subst h;trivial
 |x::l,r,h=>by
  simp only [evs] at h;obtain⟨v,h1,h⟩:=Zc h;obtain⟨r',h2,h⟩:=Zc h;injection h with h;subst h
  exact⟨Zh ht h1,ZkM ht h2⟩
theorem Zh5:∀{l:List (Nat×Nat)} {m:List Value},PW (PtR ρ) l m→PW (AR ρ) (pAV l) m
 |[],[],_=>trivial
 |_::_,_::_,h=>⟨h.1,Zh5 h.2⟩
 |[],_::_,h=>h.elim
 |_::_,[],h=>h.elim
theorem Zln {x:Nat×Ob}:∀{l:Hp} {y:Nat×Ob},y∈insH x l→y=x∨y∈l
 |[],y,h=>by
  have h2:y∈[x]:=h;exact .inl (by simpa using h2)
 |z::l,y,h=>by
  have h2:y∈cond (Nat.blt x.1 z.1) (z::insH x l) (x::z::l):=h;cases e:Nat.blt x.1 z.1 with
  |true=>
   rw [e] at h2;rcases List.mem_cons.1 h2 with rfl|h2
   · exact .inr (List.mem_cons_self ..)
   · rcases Zln h2 with h3|h3
     · exact .inl h3
     · exact .inr (List.mem_cons_of_mem _ h3)
  |false=>
   rw [e] at h2;rcases List.mem_cons.1 h2 with rfl|h2
   · exact .inl rfl
   · exact .inr h2
theorem ZsB {h:Hp} {y:Nat×Ob} (hy:y∈nrmH h):y∈h:=by
 unfold nrmH at hy;split at hy
 · exact hy
 · rcases Zln hy with rfl|h2
   · exact List.mem_cons_self ..
   · exact List.mem_cons_of_mem _ h2
theorem Zni (hOk:EOk P E n0 w0)(hcf:Zdb P n0 w0 cf)(ht:TR ρ t a)(hI:IV n0 w0 ρ nx h w)(hf:fr<nx)(hn:ρ fr=none){nx':Nat} {h':Hp} (hs:stp E cf fr t nx h o.op=some (v,nx',h')){K:Act→World→Prop} {Q:Exit→Act→World→Prop}
 (hK:∀ρ' V w',AR ρ' v V→IV n0 w0 ρ' nx' h' w'→ρ.le ρ'→nx≤nx'→(∀i,i<nx→i≠fr→ρ' i=ρ i)→K (a.put o.dst V) w'):o.wp P a w K Q:=by
 unfold stp at hs;split at hs
 · rename_i u hp
   simp only [Option.some.injEq,Prod.mk.injEq] at hs;obtain⟨rfl,rfl,rfl⟩:=hs;obtain⟨V,hV,hr⟩:=Zmw hOk.ty (fun t ti h1 h2=>(hOk.eq t ti h1 h2).1) ht hp;unfold Oper.wp;rw [hr w];exact hK ρ V w hV hI ρ.le_refl (Nat.le_refl _) (fun _ _ _=>rfl)
 · rename_i hp
   split at hs
   · rename_i u h1 he
     simp only [Option.some.injEq,Prod.mk.injEq] at hs;obtain⟨rfl,rfl,rfl⟩:=hs;obtain⟨ρ',w',V,hV,hr,hI0,hle,hag⟩:=eff_ok hOk.ty hOk.eq hOk.gl ht hI hf hn he;have hI':=hI0.sub (h':=nrmH h1) (fun y hy=>ZsB hy);unfold Oper.wp;rcases hr with hr|⟨hu,hr⟩
     · rw [hr];exact hK ρ' V w' hV hI' hle (Nat.le_refl _) (fun i _ hi=>hag i hi)
     · rw [hr];subst hu;exact hK ρ' undef w' hV hI' hle (Nat.le_refl _) (fun i _ hi=>hag i hi)
   · rename_i he
     unfold Zkc at hs;split at hs
     case h_2=>cases hs
     rename_i c hc
     split at hs
     case h_2=>cases hs
     rename_i f hcal
     split at hs
     case h_2=>cases hs
     rename_i k fs cs hfv
     obtain⟨l,hl,hs⟩:=Zc hs;obtain⟨m,n,hF,hfs,hcs⟩:=Zh ht hfv;have hargs:=ZkM ht hl;obtain⟨⟨F,hF1,hF2,hF3⟩,hcall⟩:=hcf _ _ _ _ _ _ _ hs;have hpw:PW (AR ρ) (pAV fs++(l++pAV cs)) (m++(c.args.toList.map a.eval++n)):=(Zh5 hfs).app (hargs.app (Zh5 hcs));have hC:=hcall ρ w _ hI hpw;have hrun:(execOp a.eval o).run P w= .ok (.enter k (m++(c.args.toList.map a.eval++n)).toArray) w:=by
      have harr:m.toArray++c.args.map a.eval++n.toArray=(m++(c.args.toList.map a.eval++n)).toArray:=by
       apply Array.ext';simp
      unfold execOp;simp only [hc,resolve,hcal,hF,Deferred.ofValue,Sem.run_bind,Sem.run_pure,Result.andThen_ok,invoke,callFunc,harr];have g2:¬F.name= "runtime.NumGoroutine" :=by simpa using hF2
      have g3:¬F.body=none:=by intro e;rw [e] at hF3;cases hF3
      simp [hF1,g2,g3]
     unfold Oper.wp;rw [hrun,Oper.upon_enter];refine Calls.mono hC ?_;rintro e w' ⟨ρ',V,rfl,hV,hI',hle,hag⟩;exact hK ρ' V w' hV hI' (Zr4 hI hag) hle (fun i hi _=>hag i hi)
theorem ZfZ {d:Option Nat} {V:Value} (ht:TR ρ t a)(hv:AR ρ v V):TR ρ (Zcm d v t) (a.put d V):=by
 cases d with
 |none=>exact ht
 |some i=>
  unfold Zcm;simp only [Zm2];exact put_ok ht hv
theorem Zf0 {d:Option Nat} {V:Value}:(a.put d V).defers=a.defers:=by cases d<;>rfl
theorem TR.mono {σ:Rho} (h:ρ.le σ)(ht:TR ρ t a):TR σ t a:=PW.mono (AR.mono h) ht
theorem ZiT {ops:Array Oper} (ht:TR ρ t a):ZeV ops.toList t o=Region.wanted o (yielded ops a.tmps):=by
 unfold ZeV Region.wanted;cases hg:o.guard with
 |none=>rfl
 |some jy=>
  obtain⟨j,y⟩:=jy;simp only;rw [ZaZ];unfold yielded;rw [Array.getElem?_toList];cases hj:ops[j]? with
  |none=>simp
  |some oj=>
   simp only [Option.bind_some];cases hd:oj.dst with
   |none=>simp
   |some d=>
    simp only [Option.bind_some];rw [ZaZ];cases hv:t[d]? with
    |none=>
     have:a.tmps[d]? =none:=by
      have h1:=ht.len;have h2:=List.getElem?_eq_none_iff.1 hv;have h3:a.tmps.toList[d]? =none:=List.getElem?_eq_none_iff.2 (by rw [←h1];exact h2);simpa using h3
     rw [this];rfl
    |some u=>
     obtain⟨V,hV,hr⟩:=ht.get hv;have hV':a.tmps[d]? =some V:=by simpa using hV
     rw [hV'];cases u with
     |a l=>obtain⟨m,rfl,_⟩:=hr;rfl
     |t l=>obtain⟨m,rfl,_⟩:=hr;rfl
     |c x=>
      cases x with
      |b z=>
       have e:V= .bool z:=hr;subst e;simp only;cases z<;>cases y<;>rfl
      |i _ _=>have e:=hr;simp only [AR,VR] at e;subst e;rfl
      |s _=>have e:=hr;simp only [AR,VR] at e;subst e;rfl
      |zp=>have e:=hr;simp only [AR,VR] at e;subst e;rfl
      |zs=>have e:=hr;simp only [AR,VR] at e;subst e;rfl
      |zf=>have e:=hr;simp only [AR,VR] at e;subst e;rfl
      |zi=>have e:=hr;simp only [AR,VR] at e;subst e;rfl
      |zm=>have e:=hr;simp only [AR,VR] at e;subst e;rfl
      |g _ _=>have e:=hr;simp only [AR,VR] at e;subst e;rfl
      |p _ _=>obtain⟨b,c,_,rfl⟩:=hr;rfl
      |m _=>obtain⟨b,c,_,rfl⟩:=hr;rfl
      |sl _ _ _ _=>obtain⟨b,c,o,_,_,_,rfl⟩:=hr;rfl
      |fn _ _ _=>obtain⟨m,n,rfl,_⟩:=hr;rfl
def Ex.toE:Ex→Exit
 | .nrm=> .normal
 | .exit id=> .exit id
 | .ret=> .ret
def SP (n0:Nat)(w0:World)(ρ:Rho)(nx:Nat)(e:Ex)(t':List AV)(nx':Nat)(h':Hp):Exit→Act→World→Prop:=fun x a' w'=>
 x=e.toE∧a'.defers=[]∧∃ρ',IV n0 w0 ρ' nx' h' w'∧TR ρ' t' a'∧nx≤nx'∧∀i,i<nx→ρ' i=ρ i
theorem SP.mono {ρ':Rho} {nx1 nx':Nat} {e:Ex} {t':List AV} {h':Hp} (hle:nx≤nx1)(hag:∀i,i<nx→ρ' i=ρ i){x:Exit} {a':Act} {w':World} (h:SP n0 w0 ρ' nx1 e t' nx' h' x a' w'):SP n0 w0 ρ nx e t' nx' h' x a' w':=by
 obtain⟨h1,h2,σ,h3,h4,h5,h6⟩:=h;exact⟨h1,h2,σ,h3,h4,by omega,fun i hi=>(h6 i (by omega)).trans (hag i hi)⟩
theorem SP.nopanic {e:Ex} {t':List AV} {nx':Nat} {h':Hp} (c:List PanicEntry)(a' a'':Act)(w':World)(h:SP n0 w0 ρ nx e t' nx' h' (.panic c) a' w'):SP n0 w0 ρ nx e t' nx' h' (.panic c) a'' w':=by
 obtain⟨h1,_⟩:=h;cases e<;>cases h1
theorem ZsR {Q Q':Exit→Act→World→Prop} (hq:∀x a w,Q x a w→Q' x a w){K K':Act→World→Prop} (hk:∀a w,K a w→K' a w)(hh:o.wp P a w K Q):o.wp P a w K' Q':=by
 unfold Oper.wp at*;generalize (execOp a.eval o).run P w=r at*;cases r with
 |ok n w'=>
  cases n<;>simp only [Oper.upon] at hh⊢<;>
   first
    |exact hk _ _ hh
    |exact Calls.mono hh (fun e w'' he=>by cases e<;>first|exact hk _ _ he|exact hq _ _ _ he|(obtain⟨a1,w1,h1⟩:=he;exact⟨a1,w1,hq _ _ _ h1⟩))
    |exact Rows.mono hh (fun _ _ he=>hk _ _ he)
 |halt x w'=>cases x<;>simp only [Oper.upon] at hh⊢<;>first|exact hq _ _ _ hh|exact hh
theorem ZiU {ops:Array Oper} {Q Q':Exit→Act→World→Prop} (hq:∀x a w,Q x a w→Q' x a w):∀{l:List Oper} {a:Act} {w:World},wpList P ops Q l a w→wpList P ops Q' l a w
 |[],_,_,h=>hq _ _ _ h
 |o::l,a,w,h=>by
  unfold wpList at*;split
  · rename_i hw
    rw [if_pos hw] at h;rcases h with h|⟨h1,a1,w1,h2⟩
    · exact .inl (ZsR hq (fun a w h=>ZiU hq h) h)
    · exact .inr ⟨h1,a1,w1,hq _ _ _ h2⟩
  · rename_i hw
    rw [if_neg hw] at h;exact ZiU hq h
theorem Zic (hOk:EOk P E n0 w0)(hcf:Zdb P n0 w0 cf)(ops:Array Oper):∀(l:List Oper) (t:List AV) (nx:Nat) (h:Hp) (t':List AV) (nx':Nat) (h':Hp) (ρ:Rho) (a:Act) (w:World),regS E cf ops.toList l t nx h=some (t',nx',h')→TR ρ t a→IV n0 w0 ρ nx h w→a.defers=[]→
 wpList P ops (SP n0 w0 ρ nx .nrm t' nx' h') l a w
 |[],t,nx,h,t',nx',h',ρ,a,w,hs,ht,hI,hd=>by
  have hs2:some (t,nx,h)=some (t',nx',h'):=hs;simp only [Option.some.injEq,Prod.mk.injEq] at hs2;obtain⟨rfl,rfl,rfl⟩:=hs2;exact⟨rfl,hd,ρ,hI,ht,Nat.le_refl _,fun _ _=>rfl⟩
 |o::l,t,nx,h,t',nx',h',ρ,a,w,hs,ht,hI,hd=>by
  have hs2:Zid E cf ops.toList o (regS E cf ops.toList l) t nx h=some (t',nx',h'):=hs;unfold Zid at hs2;rw [ZiT ht] at hs2;unfold wpList;split at hs2
  · rename_i hw
    rw [if_pos hw]
    left
    split at hs2
    · rename_i v nx1 h1 hstp
      refine Zni hOk hcf ht (hI.next 1) (by omega) (hI.fresh nx (Nat.le_refl _)) hstp (fun ρ' V w' hV hI' hle hnx hag=> ?_);have hag2:∀i,i<nx→ρ' i=ρ i:=fun i hi=>hag i (by omega) (by omega);refine ZiU ?_ (Zic hOk hcf ops l _ _ _ _ _ _ ρ' _ w' hs2 (ZfZ (ht.mono hle) hV) hI' (by rw [Zf0];exact hd));exact fun x a' w' hh=>SP.mono (by omega) hag2 hh
    · cases hs2
  · rename_i hw
    rw [if_neg hw];exact Zic hOk hcf ops l _ _ _ _ _ _ ρ _ w hs2 (ZfZ ht (Zed ρ)) hI (by rw [Zf0];exact hd)
end
end Ev
end Go.Proofs.YtlfinljfghhpdaaGreatDoor
