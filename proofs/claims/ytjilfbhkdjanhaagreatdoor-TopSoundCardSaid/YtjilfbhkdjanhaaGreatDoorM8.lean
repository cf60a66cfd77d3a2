/- Lemmas for a statement on the tops; conditions: as each says. -/
import Derived.LoopN
import Derived.Test.YtjilfbhkdjanhaaGreatDoorM7
set_option linter.all false
set_option maxRecDepth 100000
set_option maxHeartbeats 200000
namespace Go.Proofs.YtjilfbhkdjanhaaGreatDoor
open Go Go.RowKit
namespace Ev
def ZfK(P:Program)(n0:Nat)(w0:World)(j:Nat->List AV->Hp->Option AV):Prop:=
 ∀f args h v,j f args h=some v->∀ρ nx w (A:List Value),IV n0 w0 ρ nx h w->PW (AR ρ) args A->Calls P f A.toArray w (λe w'=>∃V,e=.returned V/\AR ρ v V/\Below w.heap.size w w')
def RunOk(P:Program)(n0:Nat)(w0:World)(run:Zdn):Prop:=
 ∀c t nx h e j nx' h',run c t nx h=some (e,j,nx',h')->∀ρ a w,TR ρ t a->IV n0 w0 ρ nx h w->a.defers=[]->c.wp P (SP n0 w0 ρ nx e j nx' h') a w
def resS(tmps:Array Value):ResultVar->Sem Value
 | .tmp t=>pure (tmps.getD t undef)
 | .cell a t=>do loadVar t (<-asAddr (tmps.getD a undef))
def Zv1(fn:Func)(tmps:Array Value):results fn tmps=(do let vs<-fn.results.mapM (resS tmps);pure (if h:vs.size=1 then vs[0] else .tuple vs)):=by
 unfold results;rfl
section
variable {P:Program} {E:Env} {n0:Nat} {w0 w:World} {ρ:Rho} {nx:Nat} {h:Hp} {t:List AV} {a:Act} {v:AV}
theorem IV.below{w':World}(j:IV n0 w0 ρ nx h w)(hb:Below w.heap.size w w'):IV n0 w0 ρ nx h w':=
 ⟨j.fresh,j.low.trans (hb.mono j.size),j.hn,λi b c y=>by have:=j.rng i b c y;have:=hb.size;omega,λx u=>by
  obtain⟨b,c,q,C⟩:=j.ob x u;exact⟨b,c,q,C.mono ρ.le_refl (hb.block b (j.rng _ _ _ q).2)⟩,j.inj⟩
theorem Zht{b:Nat}{q:List Nat}:∀{h:Hp} {x:Nat×Ob},x∈Zer b q h->x∈h
 |[],x,j=>by simp[Zer] at j
 |y::h,x,j=>by
  simp only[Zer] at j;split at j
  ·rcases List.mem_cons.1 j with rfl|j
   ·exact List.mem_cons_self ..
   ·exact List.mem_cons_of_mem _ (Zht j)
  ·split at j
   ·rcases List.mem_cons.1 j with rfl|j
    ·exact List.mem_cons_self ..
    ·exact List.mem_cons_of_mem _ (Zht j)
   ·exact List.mem_cons_of_mem _ (Zht j)
theorem ZjW(Y:∀t O,E.ty t=some O->TyOk P t O)(hG:GOk E n0 w0)(N:TR ρ t a)(W:IV n0 w0 ρ nx h w):∀{l:List ResultVar} {D:List AV},Zd5 E t h l=some D->
 ∃C:List Value,PW (AR ρ) D C/\(l.mapM (resS a.tmps)).run P w=.ok C w
 |[],D,j=>by
  simp only[Zd5,Option.some.injEq] at j;subst j;exact⟨[],trivial,by simp⟩
 | .tmp i::l,D,j=>by
  simp only[Zd5] at j;obtain⟨u,L,j⟩:=Zc j;obtain⟨r,Z,j⟩:=Zc j;injection j with j;subst j
  rw[ZbF] at L;obtain⟨V,U,hR⟩:=N.get L;obtain⟨C,g1,g2⟩:=ZjW Y hG N W Z;refine⟨V::C,⟨hR,g1⟩,?_⟩;rw[List.mapM_cons];simp only[resS,Sem.run_bind,Sem.run_pure,Result.andThen_ok,g2,Zi4 U]
 | .cell i ty::l,D,j=>by
  simp only[Zd5] at j;obtain⟨O,h0,j⟩:=Zc j;obtain⟨u,L,j⟩:=Zc j;obtain⟨c,h3,j⟩:=Zc j;obtain⟨y,h4,j⟩:=Zc j;obtain⟨r,Z,j⟩:=Zc j;injection j with j;subst j
  rw[ZbF] at L;obtain⟨X,hX,hR⟩:=N.get L;obtain⟨C,g1,g2⟩:=ZjW Y hG N W Z;obtain⟨b,I,m,rfl,hn,hl,hc⟩:=Zeo hG W hR h3;obtain⟨V,U,J⟩:=ZhL (P:=P) (Y _ _ h0) h4 hl hn b I;refine⟨V::C,⟨U,g1⟩,?_⟩;have q:(loadVar ty ⟨b,I,none⟩).run P w=.ok V w:=by
   have:=J w hc;simpa[Instr.loadAt,Instr.sureAddr] using this
  rw[List.mapM_cons];simp only[resS,Sem.run_bind,Sem.run_pure,Result.andThen_ok,g2,Zi4 hX,asAddr,q]
theorem ZlK:∀{l:List AV} {r:List A0} {m:List Value},a0s l=some r->PW (AR ρ) l m->PW (A0R ρ) r m
 |[],r,m,h,j=>by
  simp only[a0s,Option.some.injEq] at h;subst h
  match m,j with
  |[],_=>trivial
 |x::l,r,m,h,j=>by
  simp only[a0s] at h;obtain⟨y,u,h⟩:=Zc h;obtain⟨C,q,h⟩:=Zc h;injection h with h;subst h
  match m,j with
  |z::m,j=>exact⟨AR.a0 j.1 u,ZlK q j.2⟩
theorem Zvz{l:List AV}{j:List Value}(h:ZhB l=some v)(q:PW (AR ρ) l j):AR ρ v (if h:j.toArray.size=1 then j.toArray[0] else .tuple j.toArray):=by
 unfold ZhB at h;split at h
 ·injection h with h;subst h
  match j,q with
  |[x],q=>exact q.1
 ·rename_i y
  obtain⟨r,C,h⟩:=Zc h;injection h with h;subst h
  have u:¬j.toArray.size=1:=by
   intro e;have:l.length=1:=by rw[q.len];simpa using e
   match l,this with
   |[x],_=>exact y x rfl
  rw[dif_neg u];exact⟨j,rfl,ZlK C q⟩
theorem ZoI:∀n,PW (AR ρ) (List.replicate n (.t [])) (List.replicate n undef)
 |0=>trivial
 |n+1=>⟨Zfx ρ,ZoI n⟩
theorem cl_ok(q:EOk P E n0 w0){D:Nat->List AV->Hp->Option AV}(hO:ZfK P n0 w0 D){esc:Nat->Bool}{run:Zdn}(I:RunOk P n0 w0 run):Zee P n0 w0 (cl E D esc run):=by
 intro f args nx h v nx' h' j;unfold cl at j;obtain⟨F,h1,j⟩:=Zc j;obtain⟨c,h2,j⟩:=Zc j;obtain⟨f1,f2⟩:=q.fn _ _ h1;refine⟨⟨F,f1,f2,by rw[h2];rfl⟩,?_⟩;intro ρ w A Z hA;split at j
 ·rename_i u ho
  simp only[Option.some.injEq,Prod.mk.injEq] at j;obtain⟨rfl,rfl,rfl⟩:=j;refine(hO _ _ _ _ ho ρ nx w A Z hA).mono ?_;rintro e w' ⟨V,rfl,hV,hb⟩;exact⟨ρ,V,rfl,hV,Z.below hb,Nat.le_refl _,λ_ _=>rfl⟩
 ·split at j
  case h_2=>cases j
  rename_i e t' L C hr
  have U:TR ρ (args++List.replicate (F.ntmps - args.length) (.t [])) ⟨A.toArray++Array.replicate (F.ntmps - A.toArray.size) undef,[]⟩:=by
   show PW _ _ (A.toArray++Array.replicate (F.ntmps - A.toArray.size) undef).toList
   simp only[Array.toList_append,Array.toList_replicate,List.size_toArray];rw[<-hA.len];exact hA.app (ZoI _)
  have O:=I _ _ _ _ _ _ _ _ hr ρ _ w U Z rfl;refine calls_of_wp f1 h2 (wp_mono O ?_);rintro x a' w' ⟨hx,hd,ρ',J,W,X,Y⟩;have fin:(opt (Zd5 E t' C F.results.toList) λl=>opt (ZhB l) λv=>some (v,L,if esc f then C else gc nx v C))=some (v,nx',h')->
   a'.defers=[]/\∃V,(results F a'.tmps).run P w'=.ok V w'/\CPost n0 w0 ρ nx v nx' h' (.returned V) w':=by
   intro j;obtain⟨l,g1,j⟩:=Zc j;obtain⟨u,g2,j⟩:=Zc j;simp only[Option.some.injEq,Prod.mk.injEq] at j;obtain⟨rfl,rfl,rfl⟩:=j;obtain⟨Vs,k1,k2⟩:=ZjW q.ty q.gl W J g1;have hp:=Zvz g2 k1;refine⟨hd,_,?_,ρ',_,rfl,hp,J.sub ?_,X,Y⟩
   ·have hm:(F.results.mapM (resS a'.tmps)).run P w'=.ok Vs.toArray w':=by
     rw[Array.mapM_eq_mapM_toList];simp only[Sem.run_map,k2,Result.andThen_ok]
    rw[Zv1];simp only[Sem.run_bind,hm,Result.andThen_ok,Sem.run_pure]
   ·intro y N;split at N
    ·exact N
    ·exact Zht N
  cases e with
  |nrm=>
   subst hx;exact fin j
  |ret=>
   subst hx;exact fin j
  |exit id=>cases j
theorem ZwF{P:Program}{ρ':Rho}{j nx':Nat}{y:List AV}{h':Hp}{e:Ex}{c:Code}(q:nx<=j)(u:∀i,i<nx->ρ' i=ρ i)(h:c.wp P (SP n0 w0 ρ' j e y nx' h') a w):c.wp P (SP n0 w0 ρ nx e y nx' h') a w:=
 wp_mono h λ_ _ _ C=>SP.mono q u C
theorem ZoL{P:Program}{c:Code}{Q u:Exit->Act->World->Prop}(j:∀x a w,Q x a w->u x a w):∀(n:Nat) (a:Act) (w:World),Code.rounds P c Q n a w->Code.rounds P c u n a w
 |0,_,_,h=>h
 |n+1,a,w,h=>wp_mono h λe y w' q=>by
  cases e with
  |normal=>exact ZoL j n y w' q
  |exit id=>exact j _ _ _ q
  |goto l=>exact j _ _ _ q
  |ret=>exact j _ _ _ q
  |panic C=>exact j _ _ _ q
  |outgrown=>exact j _ _ _ q
theorem fin_eq(m:Nat)(s:List AV×Nat×Hp):fin m s=some (.nrm,s):=by
 unfold fin;cases Nat.beq (m % 16) 0
 ·rfl
 ·show frc s.1 _=_
  rw[Zfc,Zfc]
theorem ex_ok(aa:EOk P E n0 w0){u:Nat->List AV->Hp->Option AV}(hO:ZfK P n0 w0 u)(esc:Nat->Bool):∀n,RunOk P n0 w0 (ex E u esc n)/\
 ∀b t nx h e D nx' h',ex E u esc n (.loop b) t nx h=some (e,D,nx',h')->∀ρ a w,TR ρ t a->IV n0 w0 ρ nx h w->a.defers=[]->Code.rounds P b (SP n0 w0 ρ nx e D nx' h') n a w:=by
 intro n;induction n with
 |zero=>exact⟨λc t nx h e D nx' h' U=>(by cases U),λb t nx h e D nx' h' U=>(by cases U)⟩
 |succ n ih=>
  obtain⟨C,ah⟩:=ih;have ac:=cl_ok aa hO (esc:=esc) C;have loop:∀b t nx h e D nx' h',ex E u esc (n+1) (.loop b) t nx h=some (e,D,nx',h')->∀ρ a w,TR ρ t a->IV n0 w0 ρ nx h w->a.defers=[]->Code.rounds P b (SP n0 w0 ρ nx e D nx' h') (n+1) a w:=by
   intro b t nx h e D nx' h' U ρ a w I L hd;have q:Zkz (ex E u esc n) b t nx h=some (e,D,nx',h'):=U;unfold Zkz at q;split at q
   ·rename_i t1 af h1 hb
    refine wp_mono (C _ _ _ _ _ _ _ _ hb ρ a w I L hd) ?_;rintro x V w' ⟨rfl,Y,ρ',ab,W,X,Z⟩;exact ZoL (λ_ _ _ J=>SP.mono X Z J) n V w' (ah _ _ _ _ _ _ _ _ q ρ' V w' W ab Y)
   ·rename_i O
    refine wp_mono (C _ _ _ _ _ _ _ _ q ρ a w I L hd) ?_;rintro x V w' J;have N:=J.1;subst N;cases e with
    |nrm=>exact absurd q (O _ _ _)
    |exit id=>exact J
    |ret=>exact J
  refine⟨?_,loop⟩;intro c t nx h e D nx' h' U ρ a w I L hd;have q:Ze9 E u esc n (ex E u esc n) c t nx h=some (e,D,nx',h'):=U;cases c with
  |skip=>
   simp only[Ze9,Option.some.injEq,Prod.mk.injEq] at q;obtain⟨rfl,rfl,rfl,rfl⟩:=q;exact wp_skip ⟨rfl,hd,ρ,L,I,Nat.le_refl _,λ_ _=>rfl⟩
  |label l=>
   simp only[Ze9,Option.some.injEq,Prod.mk.injEq] at q;obtain⟨rfl,rfl,rfl,rfl⟩:=q;exact wp_label ⟨rfl,hd,ρ,L,I,Nat.le_refl _,λ_ _=>rfl⟩
  |exit id=>
   simp only[Ze9,Option.some.injEq,Prod.mk.injEq] at q;obtain⟨rfl,rfl,rfl,rfl⟩:=q;exact wp_exit ⟨rfl,hd,ρ,L,I,Nat.le_refl _,λ_ _=>rfl⟩
  |ret=>
   simp only[Ze9,Option.some.injEq,Prod.mk.injEq] at q;obtain⟨rfl,rfl,rfl,rfl⟩:=q;exact wp_ret ⟨rfl,hd,ρ,L,I,Nat.le_refl _,λ_ _=>rfl⟩
  |region id ops ae=>
   cases ae with
   |false=>
    have j:xReg E n (cl E u esc (ex E u esc n)) ops.toList t nx h=some (e,D,nx',h'):=q;unfold xReg at j;obtain⟨s,h1,j⟩:=Zc j;rw[fin_eq] at j;simp only[Option.some.injEq,Prod.mk.injEq] at j;obtain⟨rfl,rfl⟩:=j;exact wp_region_list (ZjT aa ac ops ops.toList t nx h D nx' h' ρ a w h1 I L hd)
   |true=>
    have j:ZkA E (cl E u esc (ex E u esc n)) ops.toList t nx h=some (e,D,nx',h'):=q;unfold ZkA at j;obtain⟨s,h1,j⟩:=Zc j;simp only[Option.some.injEq,Prod.mk.injEq] at j;obtain⟨rfl,rfl⟩:=j;exact ZvZ aa ac id ops h1 I L hd
  |seq x y=>
   have j:xSeq (ex E u esc n) x y t nx h=some (e,D,nx',h'):=q;unfold xSeq at j;refine wp_seq ?_;split at j
   ·rename_i t1 af h1 hb
    refine wp_mono (C _ _ _ _ _ _ _ _ hb ρ a w I L hd) ?_;rintro z V w' ⟨rfl,Y,ρ',ab,W,X,Z⟩;exact ZwF X Z (C _ _ _ _ _ _ _ _ j ρ' V w' W ab Y)
   ·rename_i O
    refine wp_mono (C _ _ _ _ _ _ _ _ j ρ a w I L hd) ?_;rintro z V w' J;have N:=J.1;subst N;cases e with
    |nrm=>exact absurd j (O _ _ _)
    |exit id=>exact J
    |ret=>exact J
  |cond x y z=>
   have j:Zky (ex E u esc n) x y z t nx h=some (e,D,nx',h'):=q;unfold Zky at j;split at j
   ·rename_i hb
    exact wp_cond_true (ZiW I hb) (C _ _ _ _ _ _ _ _ j ρ a w I L hd)
   ·rename_i hb
    exact wp_cond_false (ZiW I hb) (C _ _ _ _ _ _ _ _ j ρ a w I L hd)
   ·cases j
  |block id b=>
   have j:Zkx (ex E u esc n) id b t nx h=some (e,D,nx',h'):=q;unfold Zkx at j;refine wp_block ?_;split at j
   ·rename_i ai s hb
    refine wp_mono (C _ _ _ _ _ _ _ _ hb ρ a w I L hd) ?_;rintro z V w' ⟨rfl,J⟩;simp only[Ex.toE,Exit.inBlock];split at j
    ·rename_i hid
     rw[if_pos hid];simp only[Option.some.injEq,Prod.mk.injEq] at j;obtain⟨rfl,rfl⟩:=j;exact⟨rfl,J⟩
    ·rename_i hid
     rw[if_neg hid];simp only[Option.some.injEq,Prod.mk.injEq] at j;obtain⟨rfl,rfl⟩:=j;exact⟨rfl,J⟩
   ·rename_i O
    refine wp_mono (C _ _ _ _ _ _ _ _ j ρ a w I L hd) ?_;rintro z V w' J;have N:=J.1;subst N;cases e with
    |nrm=>exact J
    |exit ai=>exact absurd j (O _ _)
    |ret=>exact J
  |loop b=>exact wp_loop_rounds (n+1) (loop b t nx h e D nx' h' U ρ a w I L hd)
  |_=>cases q
theorem run_ok(hn:n0=w0.heap.size)(u:EOk P E n0 w0){q:Nat->List AV->Hp->Option AV}(D:ZfK P n0 w0 q)(esc:Nat->Bool){n f:Nat}{args:List AV}{A:List Value}{v:AV}(N:∀ρ,PW (AR ρ) args A)(j:run E q esc n f args=some v):
 Calls P f A.toArray w0 (λe w'=>∃ρ V,e=.returned V/\AR ρ v V/\Below w0.heap.size w0 w'):=by
 unfold run at j;obtain⟨r,U,j⟩:=Zc j;injection j with j;subst j
 have C:=cl_ok u D (esc:=esc) (ex_ok u D esc n).1;obtain⟨_,O⟩:=C _ _ _ _ _ _ _ U;subst hn;refine(O (λ_=>none) w0 A ⟨λ_ _=>rfl,Below.refl _ _,Nat.le_refl _,λi b c I=>(by cases I),λx y=>(by cases y),λx y=>(by cases y)⟩ (N _)).mono ?_;rintro e w' ⟨ρ',V,rfl,J,L,_⟩;exact⟨ρ',V,rfl,J,L.low⟩
end
end Ev
