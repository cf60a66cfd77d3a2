/- Lemmas for TopVersions; conditions: as each says. -/
import Derived.LoopN
import Derived.Test.YtlhllehffkoloaaGreatDoorM7
set_option linter.unusedVariables false
set_option linter.unusedSimpArgs false
set_option maxRecDepth 100000
set_option maxHeartbeats 200000
namespace Go.Proofs.YtlhllehffkoloaaGreatDoor
open Go Go.RowKit
namespace Ev
def Zfn (P:Program)(n0:Nat)(w0:World)(orc:Nat→List AV→Hp→Option AV):Prop:=
 ∀f args h v,orc f args h=some v→∀ρ nx w (A:List Value),IV n0 w0 ρ nx h w→PW (AR ρ) args A→Calls P f A.toArray w (fun e w'=>∃V,e= .returned V∧AR ρ v V∧Below w.heap.size w w')
def RunOk (P:Program)(n0:Nat)(w0:World)(run:Zc0):Prop:=
 ∀c t nx h e t' nx' h',run c t nx h=some (e,t',nx',h')→∀ρ a w,TR ρ t a→IV n0 w0 ρ nx h w→a.defers=[]→c.wp P (SP n0 w0 ρ nx e t' nx' h') a w
def resS (tmps:Array Value):ResultVar→Sem Value
 | .tmp t=>pure (tmps.getD t undef)
 | .cell a t=>do loadVar t (←asAddr (tmps.getD a undef))
theorem ZuK (fn:Func)(tmps:Array Value):results fn tmps=(do let vs←fn.results.mapM (resS tmps);pure (if h:vs.size=1 then vs[0] else .tuple vs)):=by
 unfold results;rfl
section
variable {P:Program} {E:Env} {n0:Nat} {w0 w:World} {ρ:Rho} {nx:Nat} {h:Hp} {t:List AV} {a:Act} {v:AV}
theorem IV.below {w':World} (hI:IV n0 w0 ρ nx h w)(hb:Below w.heap.size w w'):IV n0 w0 ρ nx h w':=
 ⟨hI.fresh,hI.low.trans (hb.mono hI.size),hI.hn,fun i b c hi=>by have:=hI.rng i b c hi;have:=hb.size;omega,fun x hx=>by
  obtain⟨b,c,h1,h2⟩:=hI.ob x hx;exact⟨b,c,h1,h2.mono ρ.le_refl (hb.block b (hI.rng _ _ _ h1).2)⟩,hI.inj⟩
theorem ZgT {b:Nat} {ids:List Nat}:∀{h:Hp} {x:Nat×Ob},x∈Zd9 b ids h→x∈h
 |[],x,hx=>by simp [Zd9] at hx
 |y::h,x,hx=>by
  simp only [Zd9] at hx;split at hx
  · rcases List.mem_cons.1 hx with rfl|hx
    · exact List.mem_cons_self ..
    · exact List.mem_cons_of_mem _ (ZgT hx)
  · split at hx
    · rcases List.mem_cons.1 hx with rfl|hx
      · exact List.mem_cons_self ..
      · exact List.mem_cons_of_mem _ (ZgT hx)
    · exact List.mem_cons_of_mem _ (ZgT hx)
theorem Zjg (hE:∀t ti,E.ty t=some ti→TyOk P t ti)(hG:GOk E n0 w0)(ht:TR ρ t a)(hI:IV n0 w0 ρ nx h w):∀{l:List ResultVar} {vs:List AV},ZdI E t h l=some vs→
 ∃Vs:List Value,PW (AR ρ) vs Vs∧(l.mapM (resS a.tmps)).run P w= .ok Vs w
 |[],vs,hr=>by
  simp only [ZdI,Option.some.injEq] at hr;subst hr;exact⟨[],trivial,by simp⟩
 | .tmp i::l,vs,hr=>by
  simp only [ZdI] at hr;obtain⟨u,h1,hr⟩:=Zb hr;obtain⟨r,h2,hr⟩:=Zb hr;injection hr with hr;subst hr
  rw [Zbq] at h1;obtain⟨V,hV,hR⟩:=ht.get h1;obtain⟨Vs,g1,g2⟩:=Zjg hE hG ht hI h2;refine⟨V::Vs,⟨hR,g1⟩,?_⟩;rw [List.mapM_cons];simp only [resS,Sem.run_bind,Sem.run_pure,Result.andThen_ok,g2,Ziz hV]
 | .cell i ty::l,vs,hr=>by
  simp only [ZdI] at hr;obtain⟨ti,h0,hr⟩:=Zb hr;obtain⟨u,h1,hr⟩:=Zb hr;obtain⟨c,h3,hr⟩:=Zb hr;obtain⟨y,h4,hr⟩:=Zb hr;obtain⟨r,h2,hr⟩:=Zb hr;injection hr with hr;subst hr
  rw [Zbq] at h1;obtain⟨X,hX,hR⟩:=ht.get h1;obtain⟨Vs,g1,g2⟩:=Zjg hE hG ht hI h2;obtain⟨b,off,m,rfl,hn,hl,hc⟩:=Zd1 hG hI hR h3;obtain⟨V,hV,hrun⟩:=Zhc (P:=P) (hE _ _ h0) h4 hl hn b off;refine⟨V::Vs,⟨hV,g1⟩,?_⟩;have hload:(loadVar ty ⟨b,off,none⟩).run P w= .ok V w:=by
   have:=hrun w hc;simpa [Instr.loadAt,Instr.sureAddr] using this
  rw [List.mapM_cons];simp only [resS,Sem.run_bind,Sem.run_pure,Result.andThen_ok,g2,Ziz hX,asAddr,hload]
theorem ZkZ:∀{l:List AV} {r:List A0} {m:List Value},a0s l=some r→PW (AR ρ) l m→PW (A0R ρ) r m
 |[],r,m,h,hm=>by
  simp only [a0s,Option.some.injEq] at h;subst h
  match m,hm with
  |[],_=>trivial
 |x::l,r,m,h,hm=>by
  simp only [a0s] at h;obtain⟨y,h1,h⟩:=Zb h;obtain⟨r',h2,h⟩:=Zb h;injection h with h;subst h
  match m,hm with
  |z::m,hm=>exact⟨AR.a0 hm.1 h1,ZkZ h2 hm.2⟩
theorem Zuk {l:List AV} {Vs:List Value} (h:Zg3 l=some v)(hl:PW (AR ρ) l Vs):AR ρ v (if h:Vs.toArray.size=1 then Vs.toArray[0] else .tuple Vs.toArray):=by
 unfold Zg3 at h;split at h
 · injection h with h;subst h
   match Vs,hl with
   |[x],hl=>exact hl.1
 · rename_i hne
   obtain⟨r,h1,h⟩:=Zb h;injection h with h;subst h
   have hsz:¬Vs.toArray.size=1:=by
    intro e;have:l.length=1:=by rw [hl.len];simpa using e
    match l,this with
    |[x],_=>exact hne x rfl
   rw [dif_neg hsz];exact⟨Vs,rfl,ZkZ h1 hl⟩
theorem ZnN:∀n,PW (AR ρ) (List.replicate n (.t [])) (List.replicate n undef)
 |0=>trivial
 |n+1=>⟨Zfa ρ,ZnN n⟩
theorem cl_ok (hOk:EOk P E n0 w0){orc:Nat→List AV→Hp→Option AV} (hO:Zfn P n0 w0 orc){esc:Nat→Bool} {run:Zc0} (hrun:RunOk P n0 w0 run):ZdP P n0 w0 (cl E orc esc run):=by
 intro f args nx h v nx' h' hc;unfold cl at hc;obtain⟨F,h1,hc⟩:=Zb hc;obtain⟨c,h2,hc⟩:=Zb hc;obtain⟨f1,f2⟩:=hOk.fn _ _ h1;refine⟨⟨F,f1,f2,by rw [h2];rfl⟩,?_⟩;intro ρ w A hI hA;split at hc
 · rename_i u ho
   simp only [Option.some.injEq,Prod.mk.injEq] at hc;obtain⟨rfl,rfl,rfl⟩:=hc;refine(hO _ _ _ _ ho ρ nx w A hI hA).mono ?_;rintro e w' ⟨V,rfl,hV,hb⟩;exact⟨ρ,V,rfl,hV,hI.below hb,Nat.le_refl _,fun _ _=>rfl⟩
 · split at hc
   case h_2=>cases hc
   rename_i e t' nx1 h1' hr
   have htr:TR ρ (args++List.replicate (F.ntmps - args.length) (.t [])) ⟨A.toArray++Array.replicate (F.ntmps - A.toArray.size) undef,[]⟩:=by
    show PW _ _ (A.toArray++Array.replicate (F.ntmps - A.toArray.size) undef).toList
    simp only [Array.toList_append,Array.toList_replicate,List.size_toArray];rw [←hA.len];exact hA.app (ZnN _)
   have hwp:=hrun _ _ _ _ _ _ _ _ hr ρ _ w htr hI rfl;refine calls_of_wp f1 h2 (wp_mono hwp ?_);rintro x a' w' ⟨hx,hd,ρ',hI',ht',hle,hag⟩;have fin:(opt (ZdI E t' h1' F.results.toList) fun l=>opt (Zg3 l) fun v=>some (v,nx1,if esc f then h1' else gc nx v h1'))=some (v,nx',h')→
    a'.defers=[]∧∃V,(results F a'.tmps).run P w'= .ok V w'∧CPost n0 w0 ρ nx v nx' h' (.returned V) w':=by
    intro hc;obtain⟨l,g1,hc⟩:=Zb hc;obtain⟨u,g2,hc⟩:=Zb hc;simp only [Option.some.injEq,Prod.mk.injEq] at hc;obtain⟨rfl,rfl,rfl⟩:=hc;obtain⟨Vs,k1,k2⟩:=Zjg hOk.ty hOk.gl ht' hI' g1;have hp:=Zuk g2 k1;refine⟨hd,_,?_,ρ',_,rfl,hp,hI'.sub ?_,hle,hag⟩
    · have hm:(F.results.mapM (resS a'.tmps)).run P w'= .ok Vs.toArray w':=by
       rw [Array.mapM_eq_mapM_toList];simp only [Sem.run_map,k2,Result.andThen_ok]
      rw [ZuK];simp only [Sem.run_bind,hm,Result.andThen_ok,Sem.run_pure]
    · intro y hy;split at hy
      · exact hy
      · exact ZgT hy
   cases e with
   |nrm=>
    subst hx;exact fin hc
   |ret=>
    subst hx;exact fin hc
   |exit id=>cases hc
theorem Zvn {P:Program} {ρ':Rho} {nx1 nx':Nat} {t':List AV} {h':Hp} {e:Ex} {c:Code} (hle:nx≤nx1)(hag:∀i,i<nx→ρ' i=ρ i)(h:c.wp P (SP n0 w0 ρ' nx1 e t' nx' h') a w):c.wp P (SP n0 w0 ρ nx e t' nx' h') a w:=
 wp_mono h fun _ _ _ hh=>SP.mono hle hag hh
theorem ZnP {P:Program} {c:Code} {Q Q':Exit→Act→World→Prop} (hq:∀x a w,Q x a w→Q' x a w):∀(n:Nat) (a:Act) (w:World),Code.rounds P c Q n a w→Code.rounds P c Q' n a w
 |0,_,_,h=>h
 |n+1,a,w,h=>wp_mono h fun e a' w' hh=>by
  cases e with
  |normal=>exact ZnP hq n a' w' hh
  |exit id=>exact hq _ _ _ hh
  |goto l=>exact hq _ _ _ hh
  |ret=>exact hq _ _ _ hh
  |panic ch=>exact hq _ _ _ hh
  |outgrown=>exact hq _ _ _ hh
theorem fin_eq (m:Nat)(s:List AV×Nat×Hp):fin m s=some (.nrm,s):=by
 unfold fin;cases Nat.beq (m % 16) 0
 · rfl
 · show frc s.1 _=_
   rw [ZeQ,ZeQ]
theorem ex_ok (hOk:EOk P E n0 w0){orc:Nat→List AV→Hp→Option AV} (hO:Zfn P n0 w0 orc)(esc:Nat→Bool):∀n,RunOk P n0 w0 (ex E orc esc n)∧
 ∀b t nx h e t' nx' h',ex E orc esc n (.loop b) t nx h=some (e,t',nx',h')→∀ρ a w,TR ρ t a→IV n0 w0 ρ nx h w→a.defers=[]→Code.rounds P b (SP n0 w0 ρ nx e t' nx' h') n a w:=by
 intro n;induction n with
 |zero=>exact⟨fun c t nx h e t' nx' h' hr=>(by cases hr),fun b t nx h e t' nx' h' hr=>(by cases hr)⟩
 |succ n ih=>
  obtain⟨ih1,ih2⟩:=ih;have hcf:=cl_ok hOk hO (esc:=esc) ih1;have loop:∀b t nx h e t' nx' h',ex E orc esc (n+1) (.loop b) t nx h=some (e,t',nx',h')→∀ρ a w,TR ρ t a→IV n0 w0 ρ nx h w→a.defers=[]→Code.rounds P b (SP n0 w0 ρ nx e t' nx' h') (n+1) a w:=by
   intro b t nx h e t' nx' h' hr ρ a w ht hI hd;have hr2:ZjZ (ex E orc esc n) b t nx h=some (e,t',nx',h'):=hr;unfold ZjZ at hr2;split at hr2
   · rename_i t1 nx1 h1 hb
     refine wp_mono (ih1 _ _ _ _ _ _ _ _ hb ρ a w ht hI hd) ?_;rintro x a' w' ⟨rfl,hd',ρ',hI',ht',hle,hag⟩;exact ZnP (fun _ _ _ hh=>SP.mono hle hag hh) n a' w' (ih2 _ _ _ _ _ _ _ _ hr2 ρ' a' w' ht' hI' hd')
   · rename_i hne
     refine wp_mono (ih1 _ _ _ _ _ _ _ _ hr2 ρ a w ht hI hd) ?_;rintro x a' w' hh;have hxx:=hh.1;subst hxx;cases e with
     |nrm=>exact absurd hr2 (hne _ _ _)
     |exit id=>exact hh
     |ret=>exact hh
  refine⟨?_,loop⟩;intro c t nx h e t' nx' h' hr ρ a w ht hI hd;have hr2:ZeO E orc esc n (ex E orc esc n) c t nx h=some (e,t',nx',h'):=hr;cases c with
  |skip=>
   simp only [ZeO,Option.some.injEq,Prod.mk.injEq] at hr2;obtain⟨rfl,rfl,rfl,rfl⟩:=hr2;exact wp_skip ⟨rfl,hd,ρ,hI,ht,Nat.le_refl _,fun _ _=>rfl⟩
  |label l=>
   simp only [ZeO,Option.some.injEq,Prod.mk.injEq] at hr2;obtain⟨rfl,rfl,rfl,rfl⟩:=hr2;exact wp_label ⟨rfl,hd,ρ,hI,ht,Nat.le_refl _,fun _ _=>rfl⟩
  |exit id=>
   simp only [ZeO,Option.some.injEq,Prod.mk.injEq] at hr2;obtain⟨rfl,rfl,rfl,rfl⟩:=hr2;exact wp_exit ⟨rfl,hd,ρ,hI,ht,Nat.le_refl _,fun _ _=>rfl⟩
  |ret=>
   simp only [ZeO,Option.some.injEq,Prod.mk.injEq] at hr2;obtain⟨rfl,rfl,rfl,rfl⟩:=hr2;exact wp_ret ⟨rfl,hd,ρ,hI,ht,Nat.le_refl _,fun _ _=>rfl⟩
  |region id ops draw=>
   cases draw with
   |false=>
    have hr3:xReg E n (cl E orc esc (ex E orc esc n)) ops.toList t nx h=some (e,t',nx',h'):=hr2;unfold xReg at hr3;obtain⟨s,h1,hr3⟩:=Zb hr3;rw [fin_eq] at hr3;simp only [Option.some.injEq,Prod.mk.injEq] at hr3;obtain⟨rfl,rfl⟩:=hr3;exact wp_region_list (Zjd hOk hcf ops ops.toList t nx h t' nx' h' ρ a w h1 ht hI hd)
   |true=>
    have hr3:Zj0 E (cl E orc esc (ex E orc esc n)) ops.toList t nx h=some (e,t',nx',h'):=hr2;unfold Zj0 at hr3;obtain⟨s,h1,hr3⟩:=Zb hr3;simp only [Option.some.injEq,Prod.mk.injEq] at hr3;obtain⟨rfl,rfl⟩:=hr3;exact ZuI hOk hcf id ops h1 ht hI hd
  |seq x y=>
   have hr3:xSeq (ex E orc esc n) x y t nx h=some (e,t',nx',h'):=hr2;unfold xSeq at hr3;refine wp_seq ?_;split at hr3
   · rename_i t1 nx1 h1 hb
     refine wp_mono (ih1 _ _ _ _ _ _ _ _ hb ρ a w ht hI hd) ?_;rintro z a' w' ⟨rfl,hd',ρ',hI',ht',hle,hag⟩;exact Zvn hle hag (ih1 _ _ _ _ _ _ _ _ hr3 ρ' a' w' ht' hI' hd')
   · rename_i hne
     refine wp_mono (ih1 _ _ _ _ _ _ _ _ hr3 ρ a w ht hI hd) ?_;rintro z a' w' hh;have hxx:=hh.1;subst hxx;cases e with
     |nrm=>exact absurd hr3 (hne _ _ _)
     |exit id=>exact hh
     |ret=>exact hh
  |cond x y z=>
   have hr3:ZjY (ex E orc esc n) x y z t nx h=some (e,t',nx',h'):=hr2;unfold ZjY at hr3;split at hr3
   · rename_i hb
     exact wp_cond_true (Zir ht hb) (ih1 _ _ _ _ _ _ _ _ hr3 ρ a w ht hI hd)
   · rename_i hb
     exact wp_cond_false (Zir ht hb) (ih1 _ _ _ _ _ _ _ _ hr3 ρ a w ht hI hd)
   · cases hr3
  |block id b=>
   have hr3:ZjX (ex E orc esc n) id b t nx h=some (e,t',nx',h'):=hr2;unfold ZjX at hr3;refine wp_block ?_;split at hr3
   · rename_i id' s hb
     refine wp_mono (ih1 _ _ _ _ _ _ _ _ hb ρ a w ht hI hd) ?_;rintro z a' w' ⟨rfl,hh⟩;simp only [Ex.toE,Exit.inBlock];split at hr3
     · rename_i hid
       rw [if_pos hid];simp only [Option.some.injEq,Prod.mk.injEq] at hr3;obtain⟨rfl,rfl⟩:=hr3;exact⟨rfl,hh⟩
     · rename_i hid
       rw [if_neg hid];simp only [Option.some.injEq,Prod.mk.injEq] at hr3;obtain⟨rfl,rfl⟩:=hr3;exact⟨rfl,hh⟩
   · rename_i hne
     refine wp_mono (ih1 _ _ _ _ _ _ _ _ hr3 ρ a w ht hI hd) ?_;rintro z a' w' hh;have hxx:=hh.1;subst hxx;cases e with
     |nrm=>exact hh
     |exit id'=>exact absurd hr3 (hne _ _)
     |ret=>exact hh
  |loop b=>exact wp_loop_rounds (n+1) (loop b t nx h e t' nx' h' hr ρ a w ht hI hd)
  |_=>cases hr2
theorem run_ok (hn:n0=w0.heap.size)(hOk:EOk P E n0 w0){orc:Nat→List AV→Hp→Option AV} (hO:Zfn P n0 w0 orc)(esc:Nat→Bool){n f:Nat} {args:List AV} {A:List Value} {v:AV} (hA:∀ρ,PW (AR ρ) args A)(hr:run E orc esc n f args=some v):
 Calls P f A.toArray w0 (fun e w'=>∃ρ V,e= .returned V∧AR ρ v V∧Below w0.heap.size w0 w'):=by
 unfold run at hr;obtain⟨r,h1,hr⟩:=Zb hr;injection hr with hr;subst hr
 have hcf:=cl_ok hOk hO (esc:=esc) (ex_ok hOk hO esc n).1;obtain⟨_,h2⟩:=hcf _ _ _ _ _ _ _ h1;subst hn;refine(h2 (fun _=>none) w0 A ⟨fun _ _=>rfl,Below.refl _ _,Nat.le_refl _,fun i b c hi=>(by cases hi),fun x hx=>(by cases hx),fun x hx=>(by cases hx)⟩ (hA _)).mono ?_;rintro e w' ⟨ρ',V,rfl,hV,hI,_⟩;exact⟨ρ',V,rfl,hV,hI.low⟩
end
end Ev
end Go.Proofs.YtlhllehffkoloaaGreatDoor
