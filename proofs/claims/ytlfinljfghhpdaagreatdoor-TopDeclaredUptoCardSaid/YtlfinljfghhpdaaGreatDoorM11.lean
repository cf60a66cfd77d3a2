/- Lemmas for a statement on the tops; conditions: as each says. -/
import Derived.LoopN
import Derived.Test.YtlfinljfghhpdaaGreatDoorM10
set_option linter.unusedVariables false
set_option linter.unusedSimpArgs false
set_option maxRecDepth 100000
set_option maxHeartbeats 200000
namespace Go.Proofs.YtlfinljfghhpdaaGreatDoor
open Go Go.RowKit
namespace Ev
section
variable {P:Program} {E:Env} {n0:Nat} {w0 w:World} {ρ:Rho} {nx fr:Nat} {h:Hp} {t:List AV} {a:Act} {o:Oper} {v:AV} {cf:ZaX}
theorem PtR.fun' {x:Nat×Nat} {u v:Value} (h:PtR ρ x u)(h':PtR ρ x v):u=v:=by
 obtain⟨b,c,h1,rfl⟩:=h;obtain⟨b',c',h2,rfl⟩:=h';rw [h1] at h2;injection h2 with h2
 injection h2 with h2 h3
 rw [h2]
theorem PW.funs {α:Type} {R:α→Value→Prop} (hR:∀x u v,R x u→R x v→u=v):∀{l:List α} {m m':List Value},PW R l m→PW R l m'→m=m'
 |[],[],[],_,_=>rfl
 |_::_,_::_,_::_,h,h'=>by rw [hR _ _ _ h.1 h'.1,PW.funs hR h.2 h'.2]
 |[],_::_,_,h,_=>h.elim
 |[],[],_::_,_,h=>h.elim
 |_::_,[],_,h,_=>h.elim
 |_::_,_::_,[],_,h=>h.elim
theorem VR.fun' {x:Cl} (hx:fcl x=true){u v:Value} (h:VR ρ x u)(h':VR ρ x v):u=v:=by
 cases x<;>first
  |(simp only [VR] at h h';rw [h,h'];done)
  |(obtain⟨b,c,h1,rfl⟩:=h;obtain⟨b',c',h2,rfl⟩:=h';rw [h1] at h2;injection h2 with h2;injection h2 with h2 h3;rw [h2];done)
  |skip
 · rename_i id off len cut
   obtain⟨b,c,o,h1,h2,h3,rfl⟩:=h;obtain⟨b',c',o',h4,h5,h6,rfl⟩:=h';rw [h1] at h4;injection h4 with h4
   injection h4 with h4 h7
   subst h4 h7;have hc:len≠0∨cut=0:=by simpa [fcl] using hx
   rw [h3 hc,h6 hc]
 · obtain⟨m,n,rfl,h1,h2⟩:=h;obtain⟨m',n',rfl,h3,h4⟩:=h';rw [PW.funs (R:=PtR ρ) (fun _ _ _ a b=>PtR.fun' a b) h1 h3,PW.funs (R:=PtR ρ) (fun _ _ _ a b=>PtR.fun' a b) h2 h4]
theorem LR.fun':∀{l:List Cl} {m m':List Value},l.all fcl=true→LR ρ l m→LR ρ l m'→m=m'
 |[],[],[],_,_,_=>rfl
 |_::_,_::_,_::_,hf,h,h'=>by
  simp only [List.all_cons,Bool.and_eq_true] at hf;rw [VR.fun' hf.1 h.1 h'.1,LR.fun' hf.2 h.2 h'.2]
 |[],_::_,_,_,h,_=>h.elim
 |[],[],_::_,_,_,h=>h.elim
 |_::_,[],_,_,h,_=>h.elim
 |_::_,_::_,[],_,_,h=>h.elim
theorem PW.mem {α β:Type} {R:α→β→Prop}:∀{l:List α} {m:List β} {x:α},PW R l m→x∈l→∃y∈m,R x y
 |y::l,z::m,x,h,hx=>by
  rcases List.mem_cons.1 hx with rfl|hx
  · exact⟨z,List.mem_cons_self ..,h.1⟩
  · obtain⟨u,h1,h2⟩:=PW.mem h.2 hx;exact⟨u,List.mem_cons_of_mem _ h1,h2⟩
 |[],_,_,_,hx=>by cases hx
 |_::_,[],_,h,_=>h.elim
def LdR (ρ:Rho)(x:Nat×Nat×List Cl)(d:Nat×Nat×List Value):Prop:=(∃c,ρ x.1=some (d.1,c))∧d.2.1=x.2.1∧LR ρ x.2.2 d.2.2
def SS (n0:Nat)(w0:World)(D:List (Nat×Nat×List Value))(w:World):Prop:=Below n0 w0 w∧∀d∈D,∀j u,d.2.2[j]? =some u→w.cell? ⟨d.1,d.2.1+j,none⟩=some u
theorem ld_at (hG:GOk E n0 w0)(hI:IV n0 w0 ρ nx h w){base:Nat} {LD:Lds} (hh:ZbN E base LD h=true){x:Nat×Nat×List Cl} (hx:x∈LD):
 x.1<base∧x.2.2.all fcl=true∧∃b c m,ρ x.1=some (b,c)∧LR ρ x.2.2 m∧∀j u,m[j]? =some u→w.cell? ⟨b,x.2.1+j,none⟩=some u:=by
 unfold ZbN at hh;have h1:=List.all_eq_true.1 hh x hx;simp only [Bool.and_eq_true,decide_eq_true_eq] at h1;obtain⟨⟨h2,h3⟩,h4⟩:=h1;have h5:=h4;unfold ZbK at h5;simp only at h5;split at h5
 · rename_i L ty sz row hlk
   obtain⟨b,c,q1,_⟩:=hI.ob _ (ZaS hlk);obtain⟨b2,o2,m,e2,hml,hl,hcell⟩:=Zdi (x:= .c (.p x.1 x.2.1)) (X:= .pointer (some ⟨b,x.2.1,none⟩)) hG hI ⟨b,c,q1,rfl⟩ h4;injection e2 with e2
   injection e2 with e2
   injection e2 with e2 e3
   subst e2 e3;exact⟨h2,h3,b,c,m,q1,hl,hcell⟩
 · cases h5
theorem Zly (hG:GOk E n0 w0)(hI:IV n0 w0 ρ nx h w){base:Nat}:∀{LD:Lds},ZbN E base LD h=true→∃D,PW (LdR ρ) LD D∧SS n0 w0 D w
 |[],_=>⟨[],trivial,hI.low,fun d hd=>by cases hd⟩
 |x::LD,hh=>by
  obtain⟨h1,h2,b,c,m,h3,h4,h5⟩:=ld_at hG hI hh (List.mem_cons_self ..);have hh':ZbN E base LD h=true:=by
   unfold ZbN at*;simp only [List.all_cons,Bool.and_eq_true] at hh⊢;exact hh.2
  obtain⟨D,d1,d2⟩:=Zly hG hI hh';refine⟨(b,x.2.1,m)::D,⟨⟨⟨c,h3⟩,rfl,h4⟩,d1⟩,hI.low,fun d hd=> ?_⟩;rcases List.mem_cons.1 hd with rfl|hd
  · exact h5
  · exact d2.2 d hd
theorem Zlx (hG:GOk E n0 w0){ρ0:Rho} (hI:IV n0 w0 ρ nx h w){base:Nat} (hle:ρ0.le ρ):∀{LD:Lds} {D:List (Nat×Nat×List Value)},ZbN E base LD h=true→PW (LdR ρ0) LD D→SS n0 w0 D w
 |[],[],_,_=>⟨hI.low,fun d hd=>by cases hd⟩
 |x::LD,d::D,hh,hD=>by
  obtain⟨h1,h2,b,c,m,h3,h4,h5⟩:=ld_at hG hI hh (List.mem_cons_self ..);have hh':ZbN E base LD h=true:=by
   unfold ZbN at*;simp only [List.all_cons,Bool.and_eq_true] at hh⊢;exact hh.2
  obtain⟨⟨c0,g1⟩,g2,g3⟩:=hD.1;have g4:=hle _ _ g1;rw [h3] at g4;injection g4 with g4
  injection g4 with g4 g5
  have g6:=LR.fun' h2 (g3.mono (VR.mono hle)) h4;obtain⟨_,k2⟩:=Zlx hG hI hle hh' hD.2;refine⟨hI.low,fun d' hd'=> ?_⟩;rcases List.mem_cons.1 hd' with rfl|hd'
  · intro j u hu;rw [g6] at hu;rw [←g4,g2];exact h5 j u hu
  · exact k2 d' hd'
 |[],_::_,_,h=>h.elim
 |_::_,[],_,h=>h.elim
theorem Ztb (hOk:EOk P E n0 w0){ops:Array Oper} {base:Nat} {ρ0:Rho} {LD:Lds} {D:List (Nat×Nat×List Value)} (hD:PW (LdR ρ0) LD D)(hle:ρ0.le ρ)(ht:TR ρ t a){l:Lds} {q:Bool} (hq:quiet E q ops.toList base t h o=some (v,l))(hl:∀x∈l,x∈LD)(hI:IV n0 w0 ρ nx h w):
 ∃V,AR ρ v V∧YieldsIf P ops (SS n0 w0 D) o V a:=by
 unfold quiet at hq;rw [ZiT ht] at hq;split at hq
 · rename_i hw
   split at hq
   · rename_i u hp
     simp only [Option.some.injEq,Prod.mk.injEq] at hq;obtain⟨rfl,rfl⟩:=hq;obtain⟨V,hV,hr⟩:=Zmw hOk.ty (fun t ti h1 h2=>(hOk.eq t ti h1 h2).1) ht hp;exact⟨V,hV,.inl ⟨hw,fun w _=>hr w⟩⟩
   · split at hq
     case isFalse=>cases hq
     unfold ldOf at hq;split at hq
     case h_2=>cases hq
     rename_i ty x hop
     obtain⟨ti,h1,hq⟩:=Zc hq;have hexec:execOp a.eval o=(do let v←Instr.loadAt ty (a.eval x);pure (.value v)):=by
      unfold execOp;simp only [hop]
     have hT:=hOk.ty _ _ h1;split at hq
     · rename_i i off hx
       split at hq
       case isFalse=>cases hq
       obtain⟨L,h2,hq⟩:=Zc hq;split at hq
       case isFalse=>cases hq
       obtain⟨u,h3,hq⟩:=Zc hq;simp only [Option.some.injEq,Prod.mk.injEq] at hq;obtain⟨rfl,rfl⟩:=hq;obtain⟨d,hd,⟨c,g1⟩,g2,g3⟩:=PW.mem hD (hl _ (List.mem_cons_self ..));obtain⟨b,c',hb,hX⟩:∃b c,ρ i=some (b,c)∧a.eval x= .pointer (some ⟨b,off,none⟩):=Zh ht hx;have g4:=hle _ _ g1;simp only at g4;rw [hb] at g4;injection g4 with g4
       injection g4 with g4 g5
       have hlen:L.length=ti.size:=by
        obtain⟨b2,o2,m,e2,hml,hl2,_⟩:=Zdi (x:= .c (.p i off)) (X:= .pointer (some ⟨b,off,none⟩)) hOk.gl hI ⟨b,c',hb,rfl⟩ h2;rw [hl2.len,hml]
       have g6:=g3.mono (VR.mono hle);obtain⟨V,hV,hr⟩:=Zf4 (P:=P) hT h3 g6 (by rw [←g6.len];exact hlen) b off;refine⟨V,hV,.inl ⟨hw,fun w hS=> ?_⟩⟩;rw [hexec,hX];simp only [Sem.run_bind,hr w (fun j u hu=>by
        have:=hS.2 d hd j u hu;rw [←g4,g2] at this;exact this),Result.andThen_ok,Sem.run_pure]
     · rename_i g off hx
       obtain⟨L,h2,hq⟩:=Zc hq;obtain⟨u,h3,hq⟩:=Zc hq;simp only [Option.some.injEq,Prod.mk.injEq] at hq;obtain⟨rfl,rfl⟩:=hq;have hX:a.eval x= .pointer (some ⟨g,off,none⟩):=Zh ht hx;unfold ZbK at h2;simp only at h2;obtain⟨GL,k1,h2⟩:=Zc h2;split at h2
       case isFalse=>cases h2
       rename_i hn
       injection h2 with h2;subst h2
       obtain⟨hg,m,k2,k3⟩:=hOk.gl _ _ k1;have hl2:=((k3 ρ).drop off).take ti.size;obtain⟨V,hV,hr⟩:=Zf4 (P:=P) hT h3 hl2 (by rw [←hl2.len];exact hn) g off;refine⟨V,hV,.inl ⟨hw,fun w hS=> ?_⟩⟩;rw [hexec,hX];simp only [Sem.run_bind,hr w (fun j u hu=>by
        rw [hS.1.cell (p:=⟨g,off+j,none⟩) hg];refine k2 (off+j) u ?_;rw [List.getElem?_take] at hu;split at hu
        · rw [List.getElem?_drop] at hu;exact hu
        · cases hu),Result.andThen_ok,Sem.run_pure]
     · cases hq
 · rename_i hw
   simp only [Option.some.injEq,Prod.mk.injEq] at hq;obtain⟨rfl,rfl⟩:=hq;exact⟨undef,Zed ρ,.inr ⟨by simpa using hw,rfl⟩⟩
theorem ZfW {q:Bool} {ops:Array Oper} {listed:Array Bool} {base:Nat}:∀{rs:List Nat} {i:Nat} {o:Oper} {v:AV} {l:Lds},pick E q ops.toList listed base t h rs=some (i,o,v,l)→
 i∈rs∧ops[i]? =some o∧quiet E q ops.toList base t h o=some (v,l)∧Region.free .any ops listed i=true
 |[],i,o,v,l,hp=>by simp [pick] at hp
 |j::rs,i,o,v,l,hp=>by
  simp only [pick] at hp;split at hp
  · rename_i oj hj
    split at hp
    · rename_i u m hq
      split at hp
      · rename_i hf
        simp only [Option.some.injEq,Prod.mk.injEq] at hp;obtain⟨rfl,rfl,rfl,rfl⟩:=hp;rw [ZaZ,Array.getElem?_toList] at hj;exact⟨List.mem_cons_self ..,hj,hq,by simpa using hf⟩
      · obtain⟨h1,h2⟩:=ZfW hp;exact⟨List.mem_cons_of_mem _ h1,h2⟩
    · obtain⟨h1,h2⟩:=ZfW hp;exact⟨List.mem_cons_of_mem _ h1,h2⟩
  · obtain⟨h1,h2⟩:=ZfW hp;exact⟨List.mem_cons_of_mem _ h1,h2⟩
end
end Ev
namespace Ev
section
variable {P:Program} {E:Env} {n0:Nat} {w0 w:World} {ρ:Rho} {nx fr:Nat} {h:Hp} {t:List AV} {a:Act} {o:Oper} {v:AV} {cf:ZaX}
theorem Zix (hOk:EOk P E n0 w0)(hcf:Zdb P n0 w0 cf){ops:Array Oper} (ht:TR ρ t a)(hI:IV n0 w0 ρ nx h w)(hf:fr<nx)(hn:ρ fr=none){nx':Nat} {h':Hp} (hs:stpW E cf ops.toList fr t nx h o=some (v,nx',h')){i:Nat} (hi:ops[i]? =some o){K:Act→World→Prop} {Q:Exit→Act→World→Prop}
 (hK:∀ρ' V w',AR ρ' v V→IV n0 w0 ρ' nx' h' w'→ρ.le ρ'→nx≤nx'→(∀i,i<nx→i≠fr→ρ' i=ρ i)→K (a.put o.dst V) w'):wpOp P ops Q i K a w:=by
 unfold stpW at hs;rw [ZiT ht] at hs;unfold wpOp;simp only [hi];split at hs
 · rename_i hw
   rw [if_pos hw];exact .inl (Zni hOk hcf ht hI hf hn hs hK)
 · rename_i hw
   rw [if_neg hw];simp only [Option.some.injEq,Prod.mk.injEq] at hs;obtain⟨rfl,rfl,rfl⟩:=hs;exact hK ρ undef w (Zed ρ) hI ρ.le_refl (Nat.le_refl _) (fun _ _ _=>rfl)
theorem Zlb {l:Array Bool} {i k:Nat} (h:(l.setIfInBounds i true).getD k true=false):l.getD k true=false∧k≠i:=by
 by_cases hk:k=i
 · subst hk
   exfalso
   by_cases hs:k<l.size
   · simp [hs] at h
   · simp [hs] at h
 · refine⟨?_,hk⟩;simp only [Array.getD_eq_getD_getElem?,Array.getElem?_setIfInBounds] at h⊢;rw [if_neg (fun e=>hk e.symm)] at h;exact h
theorem ZfC {l:Array Bool} {k:Nat} (h:l.getD k true=false):k<l.size:=by
 refine Classical.byContradiction fun hn=> ?_;simp [Array.getD_eq_getD_getElem?,Array.getElem?_eq_none (Nat.le_of_not_lt hn)] at h
structure PI (n0:Nat)(w0:World)(base:Nat)(ρ0:Rho)(D:List (Nat×Nat×List Value))(listed:Array Bool)(t:List AV)(nx:Nat)(h:Hp)(ρ:Rho)(a:Act)(w:World):Prop where
 iv:IV n0 w0 ρ nx h w
 room:base+listed.size≤nx
 ag:∀i,i<base→ρ i=ρ0 i
 unl:∀i,listed.getD i true=false→ρ (base+i)=none
 tr:TR ρ t a
 df:a.defers=[]
 le:ρ0.le ρ
 ss:SS n0 w0 D w
theorem PI.step (hG:GOk E n0 w0){base:Nat} {ρ0:Rho} {LD:Lds} {D:List (Nat×Nat×List Value)} {listed:Array Bool} (hD:PW (LdR ρ0) LD D)(hp:PI n0 w0 base ρ0 D listed t nx h ρ a w){i:Nat} (_hi:listed.getD i true=false)
 {ρ':Rho} {V:Value} {w':World} {nx':Nat} {h':Hp} (hV:AR ρ' v V) (hI':IV n0 w0 ρ' nx' h' w') (hle:ρ.le ρ') (hnx:nx≤nx') (hag:∀j,j<nx→j≠base+i→ρ' j=ρ j) (hld:ZbN E base LD h'=true):
 PI n0 w0 base ρ0 D (listed.setIfInBounds i true) (Zcm o.dst v t) nx' h' ρ' (a.put o.dst V) w':=
 ⟨hI',by have:=hp.room;simp;omega,fun j hj=>(hag j (by have:=hp.room;omega) (by omega)).trans (hp.ag j hj),fun k hk=>by
  obtain⟨h1,h2⟩:=Zlb hk;rw [hag (base+k) (by have:=hp.room;have:=ZfC h1;omega) (by omega)];exact hp.unl k h1,ZfZ (hp.tr.mono hle) hV,by rw [Zf0];exact hp.df,Rho.le_trans hp.le hle,Zlx hG hI' (Rho.le_trans hp.le hle) hld hD⟩
theorem PI.take {base:Nat} {ρ0:Rho} {D:List (Nat×Nat×List Value)} {listed:Array Bool} (hp:PI n0 w0 base ρ0 D listed t nx h ρ a w){i:Nat} {V:Value} (hV:AR ρ v V):
 PI n0 w0 base ρ0 D (listed.setIfInBounds i true) (Zcm o.dst v t) nx h ρ (a.put o.dst V) w:=
 ⟨hp.iv,by have:=hp.room;simpa using this,hp.ag,fun k hk=>hp.unl k (Zlb hk).1,ZfZ hp.tr hV,by rw [Zf0];exact hp.df,hp.le,hp.ss⟩
theorem Zs5 {q:Bool} (hOk:EOk P E n0 w0)(hcf:Zdb P n0 w0 cf)(ops:Array Oper)(hsel:Region.noSelect ops=true){base:Nat} {ρ0:Rho} {LD:Lds} {D:List (Nat×Nat×List Value)} (hD:PW (LdR ρ0) LD D):
 ∀(n:Nat) (listed:Array Bool) (t:List AV) (nx:Nat) (h:Hp) (r:RO),Zc4 E q cf ops.toList base n listed t nx h=some r→(∀x∈r.ld,x∈LD)→(∀g∈r.hs,ZbN E base LD g=true)→
 ∀(ρ:Rho) (a:Act) (w:World),PI n0 w0 base ρ0 D listed t nx h ρ a w→wpAnyH P .any ops (SP n0 w0 ρ0 base .nrm r.t r.nx r.h) (SS n0 w0 D) n listed a w:=by
 have done:∀(t:List AV) (nx:Nat) (h:Hp) (listed:Array Bool) (ρ:Rho) (a:Act) (w:World),PI n0 w0 base ρ0 D listed t nx h ρ a w→SP n0 w0 ρ0 base .nrm t nx h .normal a w:=
  fun t nx h listed ρ a w hp=>⟨rfl,hp.df,ρ,hp.iv,hp.tr,by have:=hp.room;omega,hp.ag⟩
 intro n;induction n with
 |zero=>
  intro listed t nx h r hr hl hg ρ a w hp;simp only [Zc4,Array.toArray_toList] at hr;split at hr
  · rename_i hrd
    injection hr with hr;subst hr
    exact wpAnyH_done hrd (done _ _ _ _ _ _ _ hp) 0
  · cases hr
 |succ n ih=>
  intro listed t nx h r hr hl hg ρ a w hp;simp only [Zc4,Array.toArray_toList] at hr;split at hr
  · rename_i hrd
    injection hr with hr;subst hr
    exact wpAnyH_done hrd (done _ _ _ _ _ _ _ hp) _
  · rename_i rs hne
    split at hr
    · rename_i i o v l hpk
      obtain⟨h1,h2,h3,h4⟩:=ZfW hpk;obtain⟨r',h5,hr⟩:=Zc hr;injection hr with hr;subst hr
      obtain⟨V,hV,hy⟩:=Ztb hOk (ops:=ops) hD hp.le hp.tr h3 (fun x hx=>hl x (List.mem_append_left _ hx)) hp.iv;exact wpAnyH_take h2 hsel h4 (by simpa using h1) (fun c a' w' hh=>SP.nopanic c _ _ _ hh) hy hp.ss
       (ih _ _ _ _ r' h5 (fun x hx=>hl x (List.mem_append_right _ hx)) hg ρ _ w (hp.take hV))
    · split at hr
      · rename_i i hrs
        obtain⟨o,h1,hr⟩:=Zc hr;obtain⟨s,h2,hr⟩:=Zc hr;obtain⟨r',h3,hr⟩:=Zc hr;injection hr with hr;subst hr
        rw [ZaZ,Array.getElem?_toList] at h1;refine wpAnyH_all hrs (by simp) fun j hj=> ?_;have hj':j=i:=by simpa using hj
        subst hj';have hli:listed.getD j true=false:=(mem_ready.1 (by rw [hrs];simp)).1;refine Zix hOk hcf (fr:=base+j) (nx':=s.2.1) (h':=s.2.2) (v:=s.1) hp.tr hp.iv (by have:=hp.room;have:=ZfC hli;omega) (hp.unl j hli) h2 h1 (fun ρ' V w' hV hI' hle hnx hag=> ?_);have hp':=PI.step (o:=o) hOk.gl hD hp hli hV hI' hle hnx hag (hg _ (List.mem_cons_self ..));exact⟨hp'.ss,ih _ _ _ _ r' h3 hl (fun g hg'=>hg g (List.mem_cons_of_mem _ hg')) ρ' _ w' hp'⟩
      · rename_i i k hrs
        obtain⟨o,h1,hr⟩:=Zc hr;obtain⟨s,h2,hr⟩:=Zc hr;obtain⟨r1,h3,hr⟩:=Zc hr;obtain⟨o2,h4,hr⟩:=Zc hr;obtain⟨s2,h5,hr⟩:=Zc hr;obtain⟨r2,h6,hr⟩:=Zc hr;split at hr
        · rename_i heq
          injection hr with hr;subst hr
          rw [ZaZ,Array.getElem?_toList] at h1 h4;refine wpAnyH_all hrs (by simp) fun j hj=> ?_;have hj':j=i∨j=k:=by simpa using hj
          have hli:listed.getD j true=false:=(mem_ready.1 (by rw [hrs];exact hj)).1;rcases hj' with rfl|rfl
          · refine Zix hOk hcf (fr:=base+j) (nx':=s.2.1) (h':=s.2.2) (v:=s.1) hp.tr hp.iv (by have:=hp.room;have:=ZfC hli;omega) (hp.unl j hli) h2 h1 (fun ρ' V w' hV hI' hle hnx hag=> ?_);have hp':=PI.step (o:=o) hOk.gl hD hp hli hV hI' hle hnx hag (hg _ (List.mem_cons_self ..));exact⟨hp'.ss,ih _ _ _ _ r1 h3 (fun x hx=>hl x (List.mem_append_left _ hx)) (fun g hg'=>hg g (List.mem_cons_of_mem _ (List.mem_cons_of_mem _ (List.mem_append_left _ hg')))) ρ' _ w' hp'⟩
          · refine Zix hOk hcf (fr:=base+j) (nx':=s2.2.1) (h':=s2.2.2) (v:=s2.1) hp.tr hp.iv (by have:=hp.room;have:=ZfC hli;omega) (hp.unl j hli) h5 h4 (fun ρ' V w' hV hI' hle hnx hag=> ?_);have hp':=PI.step (o:=o2) hOk.gl hD hp hli hV hI' hle hnx hag (hg _ (List.mem_cons_of_mem _ (List.mem_cons_self ..)));have hfin:=ih _ _ _ _ r2 h6 (fun x hx=>hl x (List.mem_append_right _ hx)) (fun g hg'=>hg g (List.mem_cons_of_mem _ (List.mem_cons_of_mem _ (List.mem_append_right _ hg')))) ρ' _ w' hp';rw [←heq.1,←heq.2.1,←heq.2.2] at hfin;exact⟨hp'.ss,hfin⟩
        · cases hr
      · cases hr
theorem ZmH {q:Bool} (hOk:EOk P E n0 w0)(hcf:Zdb P n0 w0 cf)(id:Nat)(ops:Array Oper){nx':Nat} {t':List AV} {h':Hp} (hr:regQ E q cf ops.toList t nx h=some (t',nx',h'))(ht:TR ρ t a)(hI:IV n0 w0 ρ nx h w)(hd:a.defers=[]):
 (Code.region id ops true).wp P (SP n0 w0 ρ nx .nrm t' nx' h') a w:=by
 unfold regQ at hr;rw [Array.toArray_toList] at hr;split at hr
 case isFalse=>cases hr
 rename_i hsel
 obtain⟨r,h1,hr⟩:=Zc hr;split at hr
 case isFalse=>cases hr
 rename_i hall
 simp only [Option.some.injEq,Prod.mk.injEq] at hr;obtain⟨rfl,rfl,rfl⟩:=hr;have hall':∀g∈h::r.hs,ZbN E nx r.ld g=true:=List.all_eq_true.1 hall;obtain⟨D,d1,d2⟩:=Zly hOk.gl hI (hall' h (List.mem_cons_self ..));have d3:SS n0 w0 D w.drew:=⟨d2.1.drew,d2.2⟩
 refine wp_region_held_drew hOk.mixed d3 (fun _=> ?_);rw [Array.length_toList] at h1;refine Zs5 hOk hcf ops hsel d1 ops.size (Array.replicate ops.size false) t (nx+ops.size) h r h1 (fun x hx=>hx) (fun g hg=>hall' g (List.mem_cons_of_mem _ hg)) ρ a w.drew ⟨(hI.drew).next _,by simp,fun _ _=>rfl,fun i _=>hI.fresh _ (by omega),ht,hd,ρ.le_refl,d3⟩
theorem Ztf (hOk:EOk P E n0 w0)(hcf:Zdb P n0 w0 cf)(id:Nat)(ops:Array Oper){nx':Nat} {t':List AV} {h':Hp} (hr:regD E cf ops.toList t nx h=some (t',nx',h'))(ht:TR ρ t a)(hI:IV n0 w0 ρ nx h w)(hd:a.defers=[]):
 (Code.region id ops true).wp P (SP n0 w0 ρ nx .nrm t' nx' h') a w:=by
 unfold regD at hr;split at hr
 · rename_i r h1
   injection hr with hr
   subst hr;exact ZmH hOk hcf id ops h1 ht hI hd
 · exact ZmH hOk hcf id ops hr ht hI hd
end
end Ev
namespace Ev
def Zek (P:Program)(n0:Nat)(w0:World)(orc:Nat→List AV→Hp→Option AV):Prop:=
 ∀f args h v,orc f args h=some v→∀ρ nx w (A:List Value),IV n0 w0 ρ nx h w→PW (AR ρ) args A→Calls P f A.toArray w (fun e w'=>∃V,e= .returned V∧AR ρ v V∧Below w.heap.size w w')
def RunOk (P:Program)(n0:Nat)(w0:World)(run:Zcw):Prop:=
 ∀c t nx h e t' nx' h',run c t nx h=some (e,t',nx',h')→∀ρ a w,TR ρ t a→IV n0 w0 ρ nx h w→a.defers=[]→c.wp P (SP n0 w0 ρ nx e t' nx' h') a w
def resS (tmps:Array Value):ResultVar→Sem Value
 | .tmp t=>pure (tmps.getD t undef)
 | .cell a t=>do loadVar t (←asAddr (tmps.getD a undef))
theorem Ztg (fn:Func)(tmps:Array Value):results fn tmps=(do let vs←fn.results.mapM (resS tmps);pure (if h:vs.size=1 then vs[0] else .tuple vs)):=by
 unfold results;rfl
section
variable {P:Program} {E:Env} {n0:Nat} {w0 w:World} {ρ:Rho} {nx:Nat} {h:Hp} {t:List AV} {a:Act} {v:AV}
theorem IV.below {w':World} (hI:IV n0 w0 ρ nx h w)(hb:Below w.heap.size w w'):IV n0 w0 ρ nx h w':=
 ⟨hI.fresh,hI.low.trans (hb.mono hI.size),hI.hn,fun i b c hi=>by have:=hI.rng i b c hi;have:=hb.size;omega,fun x hx=>by
  obtain⟨b,c,h1,h2⟩:=hI.ob x hx;exact⟨b,c,h1,h2.mono ρ.le_refl (hb.block b (hI.rng _ _ _ h1).2)⟩,hI.inj⟩
theorem ZfH {b:Nat} {ids:List Nat}:∀{h:Hp} {x:Nat×Ob},x∈Z0 b ids h→x∈h
 |[],x,hx=>by simp [Z0] at hx
 |y::h,x,hx=>by
  simp only [Z0] at hx;split at hx
  · rcases List.mem_cons.1 hx with rfl|hx
    · exact List.mem_cons_self ..
    · exact List.mem_cons_of_mem _ (ZfH hx)
  · split at hx
    · rcases List.mem_cons.1 hx with rfl|hx
      · exact List.mem_cons_self ..
      · exact List.mem_cons_of_mem _ (ZfH hx)
    · exact List.mem_cons_of_mem _ (ZfH hx)
theorem Zie (hE:∀t ti,E.ty t=some ti→TyOk P t ti)(hG:GOk E n0 w0)(ht:TR ρ t a)(hI:IV n0 w0 ρ nx h w):∀{l:List ResultVar} {vs:List AV},Zc5 E t h l=some vs→
 ∃Vs:List Value,PW (AR ρ) vs Vs∧(l.mapM (resS a.tmps)).run P w= .ok Vs w
 |[],vs,hr=>by
  simp only [Zc5,Option.some.injEq] at hr;subst hr;exact⟨[],trivial,by simp⟩
 | .tmp i::l,vs,hr=>by
  simp only [Zc5] at hr;obtain⟨u,h1,hr⟩:=Zc hr;obtain⟨r,h2,hr⟩:=Zc hr;injection hr with hr;subst hr
  rw [ZaZ] at h1;obtain⟨V,hV,hR⟩:=ht.get h1;obtain⟨Vs,g1,g2⟩:=Zie hE hG ht hI h2;refine⟨V::Vs,⟨hR,g1⟩,?_⟩;rw [List.mapM_cons];simp only [resS,Sem.run_bind,Sem.run_pure,Result.andThen_ok,g2,Zhs hV]
 | .cell i ty::l,vs,hr=>by
  simp only [Zc5] at hr;obtain⟨ti,h0,hr⟩:=Zc hr;obtain⟨u,h1,hr⟩:=Zc hr;obtain⟨c,h3,hr⟩:=Zc hr;obtain⟨y,h4,hr⟩:=Zc hr;obtain⟨r,h2,hr⟩:=Zc hr;injection hr with hr;subst hr
  rw [ZaZ] at h1;obtain⟨X,hX,hR⟩:=ht.get h1;obtain⟨Vs,g1,g2⟩:=Zie hE hG ht hI h2;obtain⟨b,off,m,rfl,hn,hl,hc⟩:=Zdi hG hI hR h3;obtain⟨V,hV,hrun⟩:=Zf4 (P:=P) (hE _ _ h0) h4 hl hn b off;refine⟨V::Vs,⟨hV,g1⟩,?_⟩;have hload:(loadVar ty ⟨b,off,none⟩).run P w= .ok V w:=by
   have:=hrun w hc;simpa [Instr.loadAt,Instr.sureAddr] using this
  rw [List.mapM_cons];simp only [resS,Sem.run_bind,Sem.run_pure,Result.andThen_ok,g2,Zhs hX,asAddr,hload]
theorem ZjX:∀{l:List AV} {r:List A0} {m:List Value},a0s l=some r→PW (AR ρ) l m→PW (A0R ρ) r m
 |[],r,m,h,hm=>by
  simp only [a0s,Option.some.injEq] at h;subst h
  match m,hm with
  |[],_=>trivial
 |x::l,r,m,h,hm=>by
  simp only [a0s] at h;obtain⟨y,h1,h⟩:=Zc h;obtain⟨r',h2,h⟩:=Zc h;injection h with h;subst h
  match m,hm with
  |z::m,hm=>exact⟨AR.a0 hm.1 h1,ZjX h2 hm.2⟩
theorem Zs1 {l:List AV} {Vs:List Value} (h:ZfU l=some v)(hl:PW (AR ρ) l Vs):AR ρ v (if h:Vs.toArray.size=1 then Vs.toArray[0] else .tuple Vs.toArray):=by
 unfold ZfU at h;split at h
 · injection h with h;subst h
   match Vs,hl with
   |[x],hl=>exact hl.1
 · rename_i hne
   obtain⟨r,h1,h⟩:=Zc h;injection h with h;subst h
   have hsz:¬Vs.toArray.size=1:=by
    intro e;have:l.length=1:=by rw [hl.len];simpa using e
    match l,this with
    |[x],_=>exact hne x rfl
   rw [dif_neg hsz];exact⟨Vs,rfl,ZjX h1 hl⟩
theorem ZmI:∀n,PW (AR ρ) (List.replicate n (.t [])) (List.replicate n undef)
 |0=>trivial
 |n+1=>⟨Zed ρ,ZmI n⟩
theorem cl_ok (hOk:EOk P E n0 w0){orc:Nat→List AV→Hp→Option AV} (hO:Zek P n0 w0 orc){esc:Nat→Bool} {run:Zcw} (hrun:RunOk P n0 w0 run):Zdb P n0 w0 (cl E orc esc run):=by
 intro f args nx h v nx' h' hc;unfold cl at hc;obtain⟨F,h1,hc⟩:=Zc hc;obtain⟨c,h2,hc⟩:=Zc hc;obtain⟨f1,f2⟩:=hOk.fn _ _ h1;refine⟨⟨F,f1,f2,by rw [h2];rfl⟩,?_⟩;intro ρ w A hI hA;split at hc
 · rename_i u ho
   simp only [Option.some.injEq,Prod.mk.injEq] at hc;obtain⟨rfl,rfl,rfl⟩:=hc;refine(hO _ _ _ _ ho ρ nx w A hI hA).mono ?_;rintro e w' ⟨V,rfl,hV,hb⟩;exact⟨ρ,V,rfl,hV,hI.below hb,Nat.le_refl _,fun _ _=>rfl⟩
 · split at hc
   case h_2=>cases hc
   rename_i e t' nx1 h1' hr
   have htr:TR ρ (args++List.replicate (F.ntmps - args.length) (.t [])) ⟨A.toArray++Array.replicate (F.ntmps - A.toArray.size) undef,[]⟩:=by
    show PW _ _ (A.toArray++Array.replicate (F.ntmps - A.toArray.size) undef).toList
    simp only [Array.toList_append,Array.toList_replicate,List.size_toArray];rw [←hA.len];exact hA.app (ZmI _)
   have hwp:=hrun _ _ _ _ _ _ _ _ hr ρ _ w htr hI rfl;refine calls_of_wp f1 h2 (wp_mono hwp ?_);rintro x a' w' ⟨hx,hd,ρ',hI',ht',hle,hag⟩;have fin:(opt (Zc5 E t' h1' F.results.toList) fun l=>opt (ZfU l) fun v=>some (v,nx1,if esc f then h1' else gc nx v h1'))=some (v,nx',h')→
    a'.defers=[]∧∃V,(results F a'.tmps).run P w'= .ok V w'∧CPost n0 w0 ρ nx v nx' h' (.returned V) w':=by
    intro hc;obtain⟨l,g1,hc⟩:=Zc hc;obtain⟨u,g2,hc⟩:=Zc hc;simp only [Option.some.injEq,Prod.mk.injEq] at hc;obtain⟨rfl,rfl,rfl⟩:=hc;obtain⟨Vs,k1,k2⟩:=Zie hOk.ty hOk.gl ht' hI' g1;have hp:=Zs1 g2 k1;refine⟨hd,_,?_,ρ',_,rfl,hp,hI'.sub ?_,hle,hag⟩
    · have hm:(F.results.mapM (resS a'.tmps)).run P w'= .ok Vs.toArray w':=by
       rw [Array.mapM_eq_mapM_toList];simp only [Sem.run_map,k2,Result.andThen_ok]
      rw [Ztg];simp only [Sem.run_bind,hm,Result.andThen_ok,Sem.run_pure]
    · intro y hy;split at hy
      · exact hy
      · exact ZfH hy
   cases e with
   |nrm=>
    subst hx;exact fin hc
   |ret=>
    subst hx;exact fin hc
   |exit id=>cases hc
theorem ZtX {P:Program} {ρ':Rho} {nx1 nx':Nat} {t':List AV} {h':Hp} {e:Ex} {c:Code} (hle:nx≤nx1)(hag:∀i,i<nx→ρ' i=ρ i)(h:c.wp P (SP n0 w0 ρ' nx1 e t' nx' h') a w):c.wp P (SP n0 w0 ρ nx e t' nx' h') a w:=
 wp_mono h fun _ _ _ hh=>SP.mono hle hag hh
theorem ZmL {P:Program} {c:Code} {Q Q':Exit→Act→World→Prop} (hq:∀x a w,Q x a w→Q' x a w):∀(n:Nat) (a:Act) (w:World),Code.rounds P c Q n a w→Code.rounds P c Q' n a w
 |0,_,_,h=>h
 |n+1,a,w,h=>wp_mono h fun e a' w' hh=>by
  cases e with
  |normal=>exact ZmL hq n a' w' hh
  |exit id=>exact hq _ _ _ hh
  |goto l=>exact hq _ _ _ hh
  |ret=>exact hq _ _ _ hh
  |panic ch=>exact hq _ _ _ hh
  |outgrown=>exact hq _ _ _ hh
theorem fin_eq (m:Nat)(s:List AV×Nat×Hp):fin m s=some (.nrm,s):=by
 unfold fin;cases Nat.beq (m % 16) 0
 · rfl
 · show frc s.1 _=_
   rw [ZdX,ZdX]
theorem ex_ok (hOk:EOk P E n0 w0){orc:Nat→List AV→Hp→Option AV} (hO:Zek P n0 w0 orc)(esc:Nat→Bool):∀n,RunOk P n0 w0 (ex E orc esc n)∧
 ∀b t nx h e t' nx' h',ex E orc esc n (.loop b) t nx h=some (e,t',nx',h')→∀ρ a w,TR ρ t a→IV n0 w0 ρ nx h w→a.defers=[]→Code.rounds P b (SP n0 w0 ρ nx e t' nx' h') n a w:=by
 intro n;induction n with
 |zero=>exact⟨fun c t nx h e t' nx' h' hr=>(by cases hr),fun b t nx h e t' nx' h' hr=>(by cases hr)⟩
 |succ n ih=>
  obtain⟨ih1,ih2⟩:=ih;have hcf:=cl_ok hOk hO (esc:=esc) ih1;have loop:∀b t nx h e t' nx' h',ex E orc esc (n+1) (.loop b) t nx h=some (e,t',nx',h')→∀ρ a w,TR ρ t a→IV n0 w0 ρ nx h w→a.defers=[]→Code.rounds P b (SP n0 w0 ρ nx e t' nx' h') (n+1) a w:=by
   intro b t nx h e t' nx' h' hr ρ a w ht hI hd;have hr2:Zi2 (ex E orc esc n) b t nx h=some (e,t',nx',h'):=hr;unfold Zi2 at hr2;split at hr2
   · rename_i t1 nx1 h1 hb
     refine wp_mono (ih1 _ _ _ _ _ _ _ _ hb ρ a w ht hI hd) ?_;rintro x a' w' ⟨rfl,hd',ρ',hI',ht',hle,hag⟩;exact ZmL (fun _ _ _ hh=>SP.mono hle hag hh) n a' w' (ih2 _ _ _ _ _ _ _ _ hr2 ρ' a' w' ht' hI' hd')
   · rename_i hne
     refine wp_mono (ih1 _ _ _ _ _ _ _ _ hr2 ρ a w ht hI hd) ?_;rintro x a' w' hh;have hxx:=hh.1;subst hxx;cases e with
     |nrm=>exact absurd hr2 (hne _ _ _)
     |exit id=>exact hh
     |ret=>exact hh
  refine⟨?_,loop⟩;intro c t nx h e t' nx' h' hr ρ a w ht hI hd;have hr2:ZdV E orc esc n (ex E orc esc n) c t nx h=some (e,t',nx',h'):=hr;cases c with
  |skip=>
   simp only [ZdV,Option.some.injEq,Prod.mk.injEq] at hr2;obtain⟨rfl,rfl,rfl,rfl⟩:=hr2;exact wp_skip ⟨rfl,hd,ρ,hI,ht,Nat.le_refl _,fun _ _=>rfl⟩
  |label l=>
   simp only [ZdV,Option.some.injEq,Prod.mk.injEq] at hr2;obtain⟨rfl,rfl,rfl,rfl⟩:=hr2;exact wp_label ⟨rfl,hd,ρ,hI,ht,Nat.le_refl _,fun _ _=>rfl⟩
  |exit id=>
   simp only [ZdV,Option.some.injEq,Prod.mk.injEq] at hr2;obtain⟨rfl,rfl,rfl,rfl⟩:=hr2;exact wp_exit ⟨rfl,hd,ρ,hI,ht,Nat.le_refl _,fun _ _=>rfl⟩
  |ret=>
   simp only [ZdV,Option.some.injEq,Prod.mk.injEq] at hr2;obtain⟨rfl,rfl,rfl,rfl⟩:=hr2;exact wp_ret ⟨rfl,hd,ρ,hI,ht,Nat.le_refl _,fun _ _=>rfl⟩
  |region id ops draw=>
   cases draw with
   |false=>
    have hr3:xReg E n (cl E orc esc (ex E orc esc n)) ops.toList t nx h=some (e,t',nx',h'):=hr2;unfold xReg at hr3;obtain⟨s,h1,hr3⟩:=Zc hr3;rw [fin_eq] at hr3;simp only [Option.some.injEq,Prod.mk.injEq] at hr3;obtain⟨rfl,rfl⟩:=hr3;exact wp_region_list (Zic hOk hcf ops ops.toList t nx h t' nx' h' ρ a w h1 ht hI hd)
   |true=>
    have hr3:Zi3 E (cl E orc esc (ex E orc esc n)) ops.toList t nx h=some (e,t',nx',h'):=hr2;unfold Zi3 at hr3;obtain⟨s,h1,hr3⟩:=Zc hr3;simp only [Option.some.injEq,Prod.mk.injEq] at hr3;obtain⟨rfl,rfl⟩:=hr3;exact Ztf hOk hcf id ops h1 ht hI hd
  |seq x y=>
   have hr3:xSeq (ex E orc esc n) x y t nx h=some (e,t',nx',h'):=hr2;unfold xSeq at hr3;refine wp_seq ?_;split at hr3
   · rename_i t1 nx1 h1 hb
     refine wp_mono (ih1 _ _ _ _ _ _ _ _ hb ρ a w ht hI hd) ?_;rintro z a' w' ⟨rfl,hd',ρ',hI',ht',hle,hag⟩;exact ZtX hle hag (ih1 _ _ _ _ _ _ _ _ hr3 ρ' a' w' ht' hI' hd')
   · rename_i hne
     refine wp_mono (ih1 _ _ _ _ _ _ _ _ hr3 ρ a w ht hI hd) ?_;rintro z a' w' hh;have hxx:=hh.1;subst hxx;cases e with
     |nrm=>exact absurd hr3 (hne _ _ _)
     |exit id=>exact hh
     |ret=>exact hh
  |cond x y z=>
   have hr3:Zi1 (ex E orc esc n) x y z t nx h=some (e,t',nx',h'):=hr2;unfold Zi1 at hr3;split at hr3
   · rename_i hb
     exact wp_cond_true (Zhj ht hb) (ih1 _ _ _ _ _ _ _ _ hr3 ρ a w ht hI hd)
   · rename_i hb
     exact wp_cond_false (Zhj ht hb) (ih1 _ _ _ _ _ _ _ _ hr3 ρ a w ht hI hd)
   · cases hr3
  |block id b=>
   have hr3:Zi0 (ex E orc esc n) id b t nx h=some (e,t',nx',h'):=hr2;unfold Zi0 at hr3;refine wp_block ?_;split at hr3
   · rename_i id' s hb
     refine wp_mono (ih1 _ _ _ _ _ _ _ _ hb ρ a w ht hI hd) ?_;rintro z a' w' ⟨rfl,hh⟩;simp only [Ex.toE,Exit.inBlock];split at hr3
     · rename_i hid
       rw [if_pos hid];simp only [Option.some.injEq,Prod.mk.injEq] at hr3;obtain⟨rfl,rfl⟩:=hr3;exact⟨rfl,hh⟩
     · rename_i hid
       rw [if_neg hid];simp only [Option.some.injEq,Prod.mk.injEq] at hr3;obtain⟨rfl,rfl⟩:=hr3;exact⟨rfl,hh⟩
   · rename_i hne
     refine wp_mono (ih1 _ _ _ _ _ _ _ _ hr3 ρ a w ht hI hd) ?_;rintro z a' w' hh;have hxx:=hh.1;subst hxx;cases e with
     |nrm=>exact hh
     |exit id'=>exact absurd hr3 (hne _ _)
     |ret=>exact hh
  |loop b=>exact wp_loop_rounds (n+1) (loop b t nx h e t' nx' h' hr ρ a w ht hI hd)
  |_=>cases hr2
theorem run_ok (hn:n0=w0.heap.size)(hOk:EOk P E n0 w0){orc:Nat→List AV→Hp→Option AV} (hO:Zek P n0 w0 orc)(esc:Nat→Bool){n f:Nat} {args:List AV} {A:List Value} {v:AV} (hA:∀ρ,PW (AR ρ) args A)(hr:run E orc esc n f args=some v):
 Calls P f A.toArray w0 (fun e w'=>∃ρ V,e= .returned V∧AR ρ v V∧Below w0.heap.size w0 w'):=by
 unfold run at hr;obtain⟨r,h1,hr⟩:=Zc hr;injection hr with hr;subst hr
 have hcf:=cl_ok hOk hO (esc:=esc) (ex_ok hOk hO esc n).1;obtain⟨_,h2⟩:=hcf _ _ _ _ _ _ _ h1;subst hn;refine(h2 (fun _=>none) w0 A ⟨fun _ _=>rfl,Below.refl _ _,Nat.le_refl _,fun i b c hi=>(by cases hi),fun x hx=>(by cases hx),fun x hx=>(by cases hx)⟩ (hA _)).mono ?_;rintro e w' ⟨ρ',V,rfl,hV,hI,_⟩;exact⟨ρ',V,rfl,hV,hI.low⟩
end
end Ev
end Go.Proofs.YtlfinljfghhpdaaGreatDoor
