/- Lemmas for a statement on the tops; conditions: as each says. -/
import Derived.Below
import Derived.Maps.AppendAt
import Derived.Test.YtlfinljfghhpdaaGreatDoorM7
set_option linter.unusedVariables false
set_option linter.unusedSimpArgs false
set_option maxRecDepth 100000
set_option maxHeartbeats 200000
namespace Go.Proofs.YtlfinljfghhpdaaGreatDoor
open Go Go.RowKit
namespace Ev
def MR (ρ:Rho)(e:A0×A0)(m:MapEntry):Prop:=A0R ρ e.1 m.key∧A0R ρ e.2 m.val
def ObR (ρ:Rho)(w:World)(b c:Nat):Ob→Prop
 | .cl l ty sz row=>∃(m rest:List Value) (fr:Nat×Nat),w.heap[b]? =some (.cells (m++rest).toArray ty fr)∧LR ρ l m∧(row=0→rest=[])∧(m++rest).length=c*sz∧(∀j,j<(m++rest).length→¬(fr.1≤j∧j<fr.2))∧(row≤1→fr=(0,0))∧(row=1→c≤maxLen)
 | .it s pos=>w.heap[b]? =some (.stringIter (Bs s) pos)
 | .mp es=>∃(L:List MapEntry) (ck:Nat),w.heap[b]? =some (.map L.toArray ck)∧PW (MR ρ) es L
theorem MR.mono {ρ σ:Rho} (h:ρ.le σ)(e:A0×A0)(m:MapEntry)(hm:MR ρ e m):MR σ e m:=⟨A0R.mono h _ _ hm.1,A0R.mono h _ _ hm.2⟩
theorem ObR.mono {ρ σ:Rho} {w w':World} {b c:Nat} (h:ρ.le σ)(hw:w'.heap[b]? =w.heap[b]?):∀{o:Ob},ObR ρ w b c o→ObR σ w' b c o
 | .cl _ _ _ _,⟨m,rest,fr,h1,h2,h3⟩=>⟨m,rest,fr,hw.trans h1,h2.mono (VR.mono h),h3⟩
 | .it _ _,h1=>hw.trans h1
 | .mp _,⟨L,ck,h1,h2⟩=>⟨L,ck,hw.trans h1,h2.mono (MR.mono h)⟩
structure IV (n0:Nat)(w0:World)(ρ:Rho)(nx:Nat)(h:Hp)(w:World):Prop where
 fresh:∀i,nx≤i→ρ i=none
 low:Below n0 w0 w
 hn:n0≤w0.heap.size
 rng:∀i b c,ρ i=some (b,c)→n0≤b∧b<w.heap.size
 ob:∀x∈h,∃b c,ρ x.1=some (b,c)∧ObR ρ w b c x.2
 inj:∀x∈h,∀y∈h,x.1≠y.1→∀b c b' c',ρ x.1=some (b,c)→ρ y.1=some (b',c')→b≠b'
def Rho.put (ρ:Rho)(i:Nat)(x:Nat×Nat):Rho:=fun j=>if j=i then some x else ρ j
theorem Rho.put_le {ρ:Rho} {i:Nat} {x:Nat×Nat} (h:ρ i=none):ρ.le (ρ.put i x):=by
 intro j y hy;unfold Rho.put;split
 · rename_i e;rw [e,h] at hy;cases hy
 · exact hy
theorem Rho.put_self {ρ:Rho} {i:Nat} {x:Nat×Nat}:ρ.put i x i=some x:=by simp [Rho.put]
theorem Rho.put_ne {ρ:Rho} {i j:Nat} {x:Nat×Nat} (h:j≠i):ρ.put i x j=ρ j:=by simp [Rho.put,h]
section
variable {P:Program} {E:Env} {n0:Nat} {w0 w:World} {ρ:Rho} {nx fr:Nat} {h:Hp} {t:List AV} {a:Act} {o:Oper} {v:AV}
theorem IV.size (hI:IV n0 w0 ρ nx h w):n0≤w.heap.size:=Nat.le_trans hI.hn hI.low.size
theorem IV.sub {h':Hp} (hI:IV n0 w0 ρ nx h w)(hs:∀x∈h',x∈h):IV n0 w0 ρ nx h' w:=
 ⟨hI.fresh,hI.low,hI.hn,hI.rng,fun x hx=>hI.ob x (hs x hx),fun x hx y hy=>hI.inj x (hs x hx) y (hs y hy)⟩
theorem IV.drew (hI:IV n0 w0 ρ nx h w):IV n0 w0 ρ nx h w.drew:=
 ⟨hI.fresh,hI.low.drew,hI.hn,hI.rng,fun x hx=>by
  obtain⟨b,c,h1,h2⟩:=hI.ob x hx;exact⟨b,c,h1,h2.mono ρ.le_refl rfl⟩,hI.inj⟩
theorem IV.next (hI:IV n0 w0 ρ nx h w)(k:Nat):IV n0 w0 ρ (nx+k) h w:=
 ⟨fun i hi=>hI.fresh i (by omega),hI.low,hI.hn,hI.rng,hI.ob,hI.inj⟩
theorem Zfj (w:World)(ob:Obj):(w.alloc ob).heap[w.heap.size]? =some ob:=by
 show(w.heap.push ob)[w.heap.size]? =some ob
 simp
theorem alloc_old (w:World)(ob:Obj){k:Nat} (hk:k<w.heap.size):(w.alloc ob).heap[k]? =w.heap[k]?:=Below.heap_alloc w ob k hk
theorem IV.new (hI:IV n0 w0 ρ nx h w)(hf:fr<nx)(hn:ρ fr=none)(ob:Obj)(c:Nat)(x:Ob)(hx:ObR (ρ.put fr (w.heap.size,c)) (w.alloc ob) w.heap.size c x):
 IV n0 w0 (ρ.put fr (w.heap.size,c)) nx ((fr,x)::h) (w.alloc ob):=by
 have hle:=Rho.put_le (x:=(w.heap.size,c)) hn;refine⟨fun i hi=>by rw [Rho.put_ne (by omega)];exact hI.fresh i hi,hI.low.alloc hI.size _,hI.hn,?_,?_,?_⟩
 · intro i b c' hi;by_cases e:i=fr
   · subst e;rw [Rho.put_self] at hi;injection hi with hi
     injection hi with h1 h2
     subst h1;exact⟨hI.size,by simp⟩
   · rw [Rho.put_ne e] at hi;have:=hI.rng i b c' hi;simp;omega
 · intro y hy;rcases List.mem_cons.1 hy with rfl|hy
   · exact⟨_,_,Rho.put_self,hx⟩
   · obtain⟨b,c',h1,h2⟩:=hI.ob y hy;exact⟨b,c',hle _ _ h1,h2.mono hle (alloc_old w ob (hI.rng _ _ _ h1).2)⟩
 · intro y hy z hz hne b c1 b' c2 hb hb';have old:∀y∈h,∀b c1,ρ.put fr (w.heap.size,c) y.1=some (b,c1)→ρ y.1=some (b,c1):=by
    intro y hy b c1 hb;obtain⟨b2,c3,h1,_⟩:=hI.ob y hy;rw [hle _ _ h1] at hb;rw [h1];exact hb
   rcases List.mem_cons.1 hy with rfl|hy<;>rcases List.mem_cons.1 hz with rfl|hz
   · exact absurd rfl hne
   · have e:=old z hz _ _ hb';rw [Rho.put_self] at hb;injection hb with hb
     injection hb with h1 h2
     have:=(hI.rng _ _ _ e).2;omega
   · have e:=old y hy _ _ hb;rw [Rho.put_self] at hb';injection hb' with hb'
     injection hb' with h1 h2
     have:=(hI.rng _ _ _ e).2;omega
   · exact hI.inj y hy z hz hne _ _ _ _ (old y hy _ _ hb) (old z hz _ _ hb')
def Zax (P:Program)(n0:Nat)(w0:World)(ρ:Rho)(nx fr:Nat)(a:Act)(o:Oper)(v:AV)(h':Hp)(w:World):Prop:=
 ∃ρ' w' V,AR ρ' v V∧((execOp a.eval o).run P w= .ok (.value V) w'∨(V=undef∧(execOp a.eval o).run P w= .ok .skip w'))∧IV n0 w0 ρ' nx h' w'∧ρ.le ρ'∧∀i,i≠fr→ρ' i=ρ i
theorem ZcB {s:Sem Value} {ρ':Rho} {w':World} {V:Value} {h':Hp} (hx:execOp a.eval o=(do let v←s;pure (.value v)))(hV:AR ρ' v V)(hr:s.run P w= .ok V w')(hI:IV n0 w0 ρ' nx h' w')(hle:ρ.le ρ')(hs:∀i,i≠fr→ρ' i=ρ i):Zax P n0 w0 ρ nx fr a o v h' w:=
 ⟨ρ',w',V,hV,.inl (by rw [hx];simp [hr]),hI,hle,hs⟩
theorem ZdE (e:TypeId)(cs:Array Value)(w:World):(newRow e cs).run P w= .ok ⟨w.heap.size,0,none⟩ (w.alloc (.cells cs e)):=rfl
theorem ZfR (σ:Rho)(w:World)(l:List Cl)(m rest:List Value)(e sz c row:Nat)(hl:LR σ l m)(hr:row=0→rest=[])(hc:(m++rest).length=c*sz)(hm:row=1→c≤maxLen):
 ObR σ (w.alloc (.cells (m++rest).toArray e)) w.heap.size c (.cl l e sz row):=
 ⟨m,rest,(0,0),Zfj _ _,hl,hr,hc,fun j _ hh=>by omega,fun _=>rfl,hm⟩
theorem Zq8 (hE:∀t ti,E.ty t=some ti→TyOk P t ti)(hI:IV n0 w0 ρ nx h w)(hf:fr<nx)(hn:ρ fr=none){e:Nat} (ho:o.op= .alloc e){h':Hp} (hh:eff E fr t h o.op=some (v,h')):
 Zax P n0 w0 ρ nx fr a o v h' w:=by
 rw [ho] at hh;simp only [eff,Zky] at hh;obtain⟨ti,h1,hh⟩:=Zc hh;simp only [Option.some.injEq,Prod.mk.injEq] at hh;obtain⟨rfl,rfl⟩:=hh;obtain⟨z,hz1,hz2,_⟩:=(hE _ _ h1).zero;have hle:=Rho.put_le (x:=(w.heap.size,z.cells.toList.length)) hn;refine ZcB (s:=Instr.alloc e true (.tuple #[])) (V:= .pointer (some ⟨w.heap.size,0,none⟩)) (by unfold execOp;simp only [ho]) ⟨_,_,Rho.put_self,rfl⟩ ?_
  (hI.new hf hn (.cells (z.cells.toList++[]).toArray e) z.cells.toList.length _ (ZfR _ _ _ _ [] _ 1 _ _ ((hz2 ρ).mono (VR.mono hle)) (fun _=>rfl) (by simp) (by simp))) hle (fun i hi=>Rho.put_ne hi)
 simp [Instr.alloc,hz1,newVar,ZdE]
theorem Zrb (ht:TR ρ t a)(hI:IV n0 w0 ρ nx h w)(hf:fr<nx)(hn:ρ fr=none){e:Nat} {x:Operand} (ho:o.op= .box e x){h':Hp} (hh:eff E fr t h o.op=some (v,h')):
 Zax P n0 w0 ρ nx fr a o v h' w:=by
 rw [ho] at hh;simp only [eff,eBox] at hh;obtain⟨u,h1,hh⟩:=Zc hh;split at hh
 · cases hh
 rename_i hT
 simp only [Option.some.injEq,Prod.mk.injEq] at hh;obtain⟨rfl,rfl⟩:=hh;have hc:=(Zh ht h1).cells (by simpa using hT);have hle:=Rho.put_le (x:=(w.heap.size,(a.eval x).cells.toList.length)) hn;refine ZcB (s:=Instr.box e (a.eval x)) (V:= .pointer (some ⟨w.heap.size,0,none⟩)) (by unfold execOp;simp only [ho]) ⟨_,_,Rho.put_self,rfl⟩ ?_
  (hI.new hf hn (.cells ((a.eval x).cells.toList++[]).toArray e) (a.eval x).cells.toList.length _ (ZfR _ _ _ _ [] _ 1 _ _ (hc.mono (VR.mono hle)) (fun _=>rfl) (by simp) (by simp))) hle (fun i hi=>Rho.put_ne hi)
 simp [Instr.box,newVar,ZdE]
theorem Zgm {α:Type} (z:List α):∀n,(zeros z n).length=n*z.length
 |0=>by simp [zeros]
 |n+1=>by rw [zeros,List.length_append,Zgm z n,Nat.succ_mul];omega
theorem ZnM {α:Type} (z:List α)(n:Nat):∀m,zeros z (m+n)=zeros z m++zeros z n
 |0=>by simp [zeros]
 |m+1=>by rw [Nat.succ_add,zeros,ZnM z n m,zeros,List.append_assoc]
theorem ZnN {α:Type} (z:List α):∀(n i:Nat),i<n*z.length→(zeros z n)[i]? =z[i % z.length]?
 |0,i,h=>by omega
 |n+1,i,h=>by
  rw [zeros];by_cases hi:i<z.length
  · rw [List.getElem?_append_left hi,Nat.mod_eq_of_lt hi]
  · rw [List.getElem?_append_right (by omega),ZnN z n _ (by rw [Nat.succ_mul] at h;omega)];congr 1
    conv=>rhs;rw [show i=(i - z.length)+z.length from by omega,Nat.add_mod_right]
theorem LR.zeros {l:List Cl} {m:List Value} (hl:LR ρ l m):∀n,LR ρ (zeros l n) (zeros m n)
 |0=>trivial
 |n+1=>hl.app (LR.zeros hl n)
theorem ZmG (z:Array Value)(n:Nat):((Array.range (n*z.size)).map (fun i=>z[i % z.size]!)).toList=zeros z.toList n:=by
 apply List.ext_getElem?
 intro i;by_cases hi:i<n*z.size
 · rw [ZnN z.toList n i (by rw [Array.length_toList];exact hi)];have hz:0<z.size:=by
    rcases Nat.eq_zero_or_pos z.size with e|e
    · rw [e] at hi;omega
    · exact e
   have hm:=Nat.mod_lt i hz;simp [hi,hm]
 · rw [List.getElem?_eq_none (by simpa using hi),List.getElem?_eq_none (by rw [Zgm,Array.length_toList];omega)]
end
end Ev
namespace Ev
def GOk (E:Env)(n0:Nat)(w0:World):Prop:=∀g l,E.gl g=some l→g<n0∧∃m:List Value,(∀j u,m[j]? =some u→w0.cell? ⟨g,j,none⟩=some u)∧∀ρ,LR ρ l m
section
variable {P:Program} {E:Env} {n0:Nat} {w0 w:World} {ρ:Rho} {nx fr:Nat} {h:Hp} {t:List AV} {a:Act} {o:Oper} {v:AV}
theorem Zsj (x:Nat×Ob)(h:Hp)(n:Nat):look (x::h) n=if x.1=n then some x.2 else look h n:=by
 show cond (Nat.beq x.1 n) (some x.2) (look h n)=_
 by_cases e:x.1=n
 · rw [if_pos e,e,Nat.beq_refl];rfl
 · have h1:Nat.beq x.1 n=false:=ZgR e;rw [if_neg e,h1];rfl
theorem ZaS:∀{h:Hp} {i:Nat} {x:Ob},look h i=some x→(i,x)∈h
 |[],_,_,hx=>by cases hx
 |y::h,i,x,hx=>by
  rw [Zsj] at hx;split at hx
  · rename_i e
    injection hx with hx
    subst e hx;exact List.mem_cons_self ..
  · exact List.mem_cons_of_mem _ (ZaS hx)
theorem ZeU {i:Nat} {x:Ob}:∀{h:Hp} {y:Nat×Ob},y∈upd i x h→y=(i,x)∨(y∈h∧y.1≠i)
 |[],y,hy=>by simp [upd] at hy
 |z::h,y,hy=>by
  simp only [upd] at hy;split at hy
  · rcases List.mem_cons.1 hy with rfl|hy
    · exact .inl rfl
    · rcases ZeU hy with e|⟨h1,h2⟩
      · exact .inl e
      · exact .inr ⟨List.mem_cons_of_mem _ h1,h2⟩
  · rename_i hne
    rcases List.mem_cons.1 hy with rfl|hy
    · exact .inr ⟨List.mem_cons_self ..,hne⟩
    · rcases ZeU hy with e|⟨h1,h2⟩
      · exact .inl e
      · exact .inr ⟨List.mem_cons_of_mem _ h1,h2⟩
theorem ZdS {i:Nat}:∀{h:Hp} {y:Nat×Ob},y∈del i h→y∈h∧y.1≠i
 |[],y,hy=>by simp [del] at hy
 |z::h,y,hy=>by
  simp only [del] at hy;split at hy
  · obtain⟨h1,h2⟩:=ZdS hy;exact⟨List.mem_cons_of_mem _ h1,h2⟩
  · rename_i hne
    rcases List.mem_cons.1 hy with rfl|hy
    · exact⟨List.mem_cons_self ..,hne⟩
    · obtain⟨h1,h2⟩:=ZdS hy;exact⟨List.mem_cons_of_mem _ h1,h2⟩
theorem Zdi (hG:GOk E n0 w0)(hI:IV n0 w0 ρ nx h w){x:AV} {X:Value} {n:Nat} {l:List Cl} (hx:AR ρ x X)(hc:ZbK E h x n=some l):
 ∃(b off:Nat) (m:List Value),X= .pointer (some ⟨b,off,none⟩)∧m.length=n∧LR ρ l m∧∀j u,m[j]? =some u→w.cell? ⟨b,off+j,none⟩=some u:=by
 have fin:∀(b off:Nat) (L:List Cl) (M:List Value) (rest:List Value) (ty:TypeId) (fz:Nat×Nat),w.heap[b]? =some (.cells (M++rest).toArray ty fz)→LR ρ L M→((L.drop off).take n).length=n→
  ∃m:List Value,m.length=n∧LR ρ ((L.drop off).take n) m∧∀j u,m[j]? =some u→w.cell? ⟨b,off+j,none⟩=some u:=by
  intro b off L M rest ty fz hb hl hn;have hl2:=(hl.drop off).take n;refine⟨(M.drop off).take n,by rw [←hl2.len,hn],hl2,fun j u hu=> ?_⟩;rw [cell_of_row w b _ _ ty fz hb];rw [List.getElem?_take] at hu;split at hu
  · rw [List.getElem?_drop] at hu;have hlt:=(List.getElem?_eq_some_iff.1 hu).1;simp only [List.getElem?_toArray];rw [List.getElem?_append_left hlt];exact hu
  · cases hu
 unfold ZbK at hc;split at hc
 · rename_i i off
   split at hc
   · rename_i L ty sz row hlk
     simp only at hc;split at hc
     · rename_i hn
       injection hc with hc;subst hc
       obtain⟨b,c,h1,m,rest,fz,h2,h3,h4⟩:=hI.ob _ (ZaS hlk);obtain⟨b',c',h5,rfl⟩:∃b c,ρ i=some (b,c)∧X= .pointer (some ⟨b,off,none⟩):=hx;simp only at h1;rw [h1] at h5;injection h5 with h5
       injection h5 with h5 h6
       subst h5;obtain⟨m',q1,q2,q3⟩:=fin b off L m rest _ _ h2 h3 hn;exact⟨b,off,m',rfl,q1,q2,q3⟩
     · cases hc
   · cases hc
 · rename_i g off
   obtain⟨L,h1,hc⟩:=Zc hc;simp only at hc;split at hc
   · rename_i hn
     injection hc with hc;subst hc
     have hX:X= .pointer (some ⟨g,off,none⟩):=hx;subst hX;obtain⟨hg,m,h2,h3⟩:=hG _ _ h1;have hl2:=((h3 ρ).drop off).take n;refine⟨g,off,(m.drop off).take n,rfl,by rw [←hl2.len,hn],hl2,fun j u hu=> ?_⟩;rw [hI.low.cell (p:=⟨g,off+j,none⟩) hg];refine h2 (off+j) u ?_;rw [List.getElem?_take] at hu;split at hu
     · rw [List.getElem?_drop] at hu;exact hu
     · cases hu
   · cases hc
 · cases hc
theorem ZmQ (b off:Nat)(m:List Value)(w:World)(h:∀j u,m[j]? =some u→w.cell? ⟨b,off+j,none⟩=some u):(loadCells ⟨b,off,none⟩ m.length).run P w= .ok m.toArray w:=
 run_loadCells_list w ⟨b,off,none⟩ m (fun j u hu=>by rw [add_eq];exact h j u hu)
theorem Zf4 {ty:Nat} {ti:TI} (hT:TyOk P ty ti){l:List Cl} {m:List Value} (hm:mk ti l=some v)(hl:LR ρ l m)(hn:m.length=ti.size)(b off:Nat):
 ∃V,AR ρ v V∧∀w:World,(∀j u,m[j]? =some u→w.cell? ⟨b,off+j,none⟩=some u)→(Instr.loadAt ty (.pointer (some ⟨b,off,none⟩))).run P w= .ok V w:=by
 obtain⟨m1,m2⟩:=ZhV hm hl;cases ha:ti.k.agg with
 |true=>
  refine⟨_,m1 ha,fun w hw=> ?_⟩;have hlc:=ZmQ (P:=P) b off m w hw;rw [hn] at hlc;simp [Instr.loadAt,Instr.sureAddr,loadVar,hT.isAgg,ha,hT.sizeOf,hlc]
 |false=>
  obtain⟨x,h1,h2⟩:=m2 ha;refine⟨x,h2,fun w hw=> ?_⟩;have hc:=hw 0 x (by rw [h1];rfl);rw [Nat.add_zero] at hc;simp [Instr.loadAt,Instr.sureAddr,loadVar,hT.isAgg,ha,hc]
theorem Zsg (hE:∀t ti,E.ty t=some ti→TyOk P t ti)(hG:GOk E n0 w0)(hI:IV n0 w0 ρ nx h w)(ht:TR ρ t a){ty:Nat} {x:Operand} (hh:ZhP E t h ty x=some v):
 ∃V,AR ρ v V∧(Instr.loadAt ty (a.eval x)).run P w= .ok V w:=by
 unfold ZhP at hh;obtain⟨ti,h1,hh⟩:=Zc hh;obtain⟨u,h2,hh⟩:=Zc hh;obtain⟨l,h3,hh⟩:=Zc hh;obtain⟨b,off,m,hX,hn,hl,hc⟩:=Zdi hG hI (Zh ht h2) h3;obtain⟨V,hV,hr⟩:=Zf4 (hE _ _ h1) hh hl hn b off;exact⟨V,hV,by rw [hX];exact hr w hc⟩
theorem ZbX {h':Hp} {V:Value} {s:Sem Value} (hx:execOp a.eval o=(do let v←s;pure (.value v)))(hV:AR ρ v V)(hr:s.run P w= .ok V w)(hI:IV n0 w0 ρ nx h' w):Zax P n0 w0 ρ nx fr a o v h' w:=
 ZcB hx hV hr hI ρ.le_refl (fun _ _=>rfl)
theorem Zre (hE:∀t ti,E.ty t=some ti→TyOk P t ti)(hG:GOk E n0 w0)(ht:TR ρ t a)(hI:IV n0 w0 ρ nx h w){ty:Nat} {x:Operand} (ho:o.op= .load ty x){h':Hp} (hh:eff E fr t h o.op=some (v,h')):
 Zax P n0 w0 ρ nx fr a o v h' w:=by
 rw [ho] at hh;simp only [eff] at hh;obtain⟨u,h1,hh⟩:=Zc hh;simp only [Option.some.injEq,Prod.mk.injEq] at hh;obtain⟨rfl,rfl⟩:=hh;obtain⟨V,hV,hr⟩:=Zsg hE hG hI ht h1;exact ZbX (s:=Instr.loadAt ty (a.eval x)) (by unfold execOp;simp only [ho]) hV hr hI
theorem ZmS (g o:Nat)(t:TypeId)(fz:Nat×Nat):∀(vs:List Value) (i:Nat) (cur:Array Value) (w:World),w.heap[g]? =some (.cells cur t fz)→(∀j,j<cur.size→¬(fz.1≤j∧j<fz.2))→o+i+vs.length≤cur.size→(∀v∈vs,v.oneCell'=true)→
 (storeCells ⟨g,o,none⟩ vs i).run P w= .ok () (w.setRow g (cur.toList.take (o+i)++vs++cur.toList.drop (o+i+vs.length)).toArray)
 |[],i,cur,w,hg,_,_,_=>by
  simp only [storeCells,List.append_nil,List.length_nil,Nat.add_zero,List.take_append_drop,Array.toArray_toList];rw [setRow_self w g cur t fz hg];rfl
 |v::rest,i,cur,w,hg,hfz,hl,h1=>by
  have hi:o+i<cur.size:=by simp at hl;omega
  have hadd:(⟨g,o,none⟩:Addr).add i=⟨g,o+i,none⟩:=add_eq g o i;have hcell:w.cell? ⟨g,o+i,none⟩=some cur[o+i]:=by simp [World.cell?,hg,hi]
  have hfro:w.frozen? ⟨g,o+i,none⟩=false:=by
   have:=hfz (o+i) hi;obtain⟨lo,hi'⟩:=fz;simp only [World.frozen?,hg,Bool.and_eq_false_iff,decide_eq_false_iff_not];simp only at this;omega
  have hst:(store ((⟨g,o,none⟩:Addr).add i) v).run P w= .ok () (w.setRow g (cur.setIfInBounds (o+i) v)):=by
   rw [hadd,run_store P w _ v _ (h1 v (by simp)),hcell];simp [hfro,setCell_eq_setRow w g (o+i) cur t fz v hg]
  have ih:=ZmS g o t fz rest (i+1) (cur.setIfInBounds (o+i) v) (w.setRow g (cur.setIfInBounds (o+i) v)) (setRow_heap w g cur _ t _ hg) (by simpa using hfz) (by simp at hl⊢;omega) (fun x hx=>h1 x (by simp [hx]));simp only [storeCells,Sem.run_bind,hst,Result.andThen_ok,ih,setRow_setRow];congr 3
  have e:=list_seg_step cur.toList (o+i) v rest (by simp at hl⊢;omega);simpa [Array.toList_setIfInBounds,Nat.add_assoc] using e
theorem ZtN (w:World)(g k:Nat)(cs:Array Value)(h:k≠g):(w.setRow g cs).heap[k]? =w.heap[k]?:=by
 unfold World.setRow;rw [Array.getElem?_modify,if_neg (fun e=>h e.symm)]
theorem ZtO (w:World)(g:Nat)(cs:Array Value):(w.setRow g cs).heap.size=w.heap.size:=by
 unfold World.setRow;simp
theorem IV.turn {w':World} {i b c:Nat} {x:Ob} (hI:IV n0 w0 ρ nx h w)(hi:ρ i=some (b,c))(hm:∃y,(i,y)∈h)(hos:w'.os=w.os)(htp:w'.tape=w.tape)(hout:w'.output=w.output)(hsz:w'.heap.size=w.heap.size)
 (hoth:∀k,k≠b→w'.heap[k]? =w.heap[k]?) (hx:ObR ρ w' b c x):IV n0 w0 ρ nx (upd i x h) w':=by
 have hb:=hI.rng _ _ _ hi;obtain⟨y0,hy0⟩:=hm;refine⟨hI.fresh,⟨hos.trans hI.low.os,htp.trans hI.low.tape,hout.trans hI.low.output,by rw [hsz];exact hI.low.size,fun k hk=>(hoth k (by omega)).trans (hI.low.block k hk)⟩,hI.hn,fun j b' c' hj=>by rw [hsz];exact hI.rng j b' c' hj,?_,?_⟩
 · intro y hy;rcases ZeU hy with rfl|⟨h1,h2⟩
   · exact⟨b,c,hi,hx⟩
   · obtain⟨b',c',h3,h4⟩:=hI.ob y h1;exact⟨b',c',h3,h4.mono ρ.le_refl (hoth b' (hI.inj y h1 _ hy0 h2 _ _ _ _ h3 hi))⟩
 · intro y hy z hz hne b1 c1 b2 c2 e1 e2;rcases ZeU hy with rfl|⟨h1,h2⟩<;>rcases ZeU hz with rfl|⟨h3,h4⟩
   · exact absurd rfl hne
   · exact hI.inj _ hy0 z h3 hne _ _ _ _ e1 e2
   · exact hI.inj y h1 _ hy0 hne _ _ _ _ e1 e2
   · exact hI.inj y h1 z h3 hne _ _ _ _ e1 e2
theorem Zrm (hE:∀t ti,E.ty t=some ti→TyOk P t ti)(ht:TR ρ t a)(hI:IV n0 w0 ρ nx h w){ty:Nat} {x y:Operand} (ho:o.op= .store ty x y){h':Hp} (hh:eff E fr t h o.op=some (v,h')):
 Zax P n0 w0 ρ nx fr a o v h' w:=by
 rw [ho] at hh;simp only [eff,ZkH] at hh;obtain⟨ti,h1,hh⟩:=Zc hh;split at hh
 · rename_i i off u hx hy
   split at hh
   · rename_i hc
     split at hh
     · rename_i l e z r hlk
       obtain⟨l',h2,hh⟩:=Zc hh;simp only [ZdX,Option.some.injEq,Prod.mk.injEq] at hh;obtain⟨rfl,rfl⟩:=hh;obtain⟨b,c,q1,m,rest,fz,q2,q3,q4,q5,q6,q9,q10⟩:=hI.ob _ (ZaS hlk);obtain⟨b',c',q7,hX⟩:∃b c,ρ i=some (b,c)∧a.eval x= .pointer (some ⟨b,off,none⟩):=Zh ht hx;simp only at q1;rw [q1] at q7;injection q7 with q7
       injection q7 with q7 q8
       subst q7;have hu:=(Zh ht hy).cells hc.1;obtain⟨s1,s2⟩:=Znf h2 q3 hu;have hsize:(a.eval y).cells.size=ti.size:=by rw [←hc.2,hu.len,Array.length_toList]
       have hrun:=ZmS (P:=P) b off e fz (a.eval y).cells.toList 0 (m++rest).toArray w q2 (by simpa using q6) (by simp at s2⊢;omega) (LR.one' hu);generalize hcs:(List.toArray (_:List Value))=CS at hrun;refine⟨ρ,w.setRow b CS,undef,Zed ρ,.inr ⟨rfl,?_⟩,hI.turn (x:= .cl l' e z r) q1 ⟨_,ZaS hlk⟩ rfl rfl rfl (ZtO _ _ _) (fun k hk=>ZtN _ _ _ _ hk) ⟨m.take off++((a.eval y).cells.toList++m.drop (off+(a.eval y).cells.toList.length)),rest,fz,?_,s1,q4,?_,?_,q9,q10⟩,ρ.le_refl,fun _ _=>rfl⟩
       · unfold execOp;simp only [ho,hX];simp only [Instr.storeAt,Instr.sureAddr,storeVar,Sem.run_bind,Sem.run_pure,Result.andThen_ok,(hE _ _ h1).sizeOf,hsize,ne_eq,not_true,if_false,hrun]
       · rw [setRow_heap w b _ _ e fz q2,←hcs];congr 2
         simp only [Nat.add_zero,List.append_assoc];congr 1
         have t1:(m++rest).take off=m.take off:=by rw [List.take_append_of_le_length (by omega)]
         have t2:(m++rest).drop (off+(a.eval y).cells.toList.length)=m.drop (off+(a.eval y).cells.toList.length)++rest:=by rw [List.drop_append_of_le_length (by omega)]
         simp only [t1,t2]
       · have:(m.take off++((a.eval y).cells.toList++m.drop (off+(a.eval y).cells.toList.length))).length=m.length:=by simp at s2⊢;omega
         rw [List.length_append,this,←List.length_append,q5]
       · have:(m.take off++((a.eval y).cells.toList++m.drop (off+(a.eval y).cells.toList.length))).length=m.length:=by simp at s2⊢;omega
         rw [List.length_append,this,←List.length_append];exact q6
     · cases hh
   · cases hh
 · cases hh
end
end Ev
namespace Ev
section
variable {P:Program} {E:Env} {n0:Nat} {w0 w:World} {ρ:Rho} {nx fr:Nat} {h:Hp} {t:List AV} {a:Act} {o:Oper} {v:AV}
theorem Zfp {s:Sem Value} {V:Value} {ob:Obj} {c:Nat} {x:Ob} (hI:IV n0 w0 ρ nx h w)(hf:fr<nx)(hn:ρ fr=none)(hx:execOp a.eval o=(do let v←s;pure (.value v)))(hr:s.run P w= .ok V (w.alloc ob))
 (hV:AR (ρ.put fr (w.heap.size,c)) v V) (hO:ObR (ρ.put fr (w.heap.size,c)) (w.alloc ob) w.heap.size c x):Zax P n0 w0 ρ nx fr a o v ((fr,x)::h) w:=
 ZcB hx hV hr (hI.new hf hn ob c x hO) (Rho.put_le hn) (fun _ hi=>Rho.put_ne hi)
theorem Zrc (hE:∀t ti,E.ty t=some ti→TyOk P t ti)(ht:TR ρ t a)(hI:IV n0 w0 ρ nx h w)(hf:fr<nx)(hn:ρ fr=none){ty n:Nat} {ps:Array (Nat×Operand)} (ho:o.op= .buildSlice ty n ps){h':Hp} (hh:eff E fr t h o.op=some (v,h')):
 Zax P n0 w0 ρ nx fr a o v h' w:=by
 rw [ho] at hh;simp only [eff,Zkz] at hh;obtain⟨ti,h1,hh⟩:=Zc hh;obtain⟨d,hd1,hd2⟩:=(hE _ _ h1).und;split at hh
 · rename_i e hk
   rw [hk] at hd2;cases d<;>first|exact hd2.elim|skip
   have hd3:e=_:=hd2;subst hd3;obtain⟨te,h2,hh⟩:=Zc hh;have hTe:=hE _ _ h2;split at hh
   · rename_i hc
     obtain⟨l,h3,hh⟩:=Zc hh;simp only [Option.some.injEq,Prod.mk.injEq] at hh;obtain⟨rfl,rfl⟩:=hh;obtain⟨z,hz1,hz2,_⟩:=hTe.zero;have hzs:z.cells.size=te.size:=by rw [←Array.length_toList,←(hz2 ρ).len,hTe.zlen]
     have hle:=Rho.put_le (x:=(w.heap.size,n)) hn;have hz3:=LR.zeros (hz2 ρ) n;have hrz:=ZmG z.cells n;rw [hzs] at hrz;rw [←hrz] at hz3;obtain⟨m',f1,f2⟩:=Zfu ht h3 hz3;have hlen:m'.size=n*te.size:=by
      have q1:∀(ps:List (Nat×Operand)) (l l':List Cl),Zcc (fun i=>some (i*te.size,te.size)) t l ps=some l'→l'.length=l.length:=by
       intro ps;induction ps with
       |nil=>intro l l' h;simp only [Zcc,Option.some.injEq] at h;rw [h]
       |cons p ps ih=>
        intro l l' h;obtain⟨i,x⟩:=p;simp only [Zcc] at h;obtain⟨os,_,h⟩:=Zc h;obtain⟨u,_,h⟩:=Zc h;split at h
        · obtain⟨l1,h1,h⟩:=Zc h;rw [ih _ _ h];unfold ZeP at h1;split at h1
          · injection h1 with h1;subst h1;simp;omega
          · cases h1
        · cases h
      rw [←Array.length_toList,←f2.len,q1 _ _ _ h3,Zgm,hTe.zlen]
     refine Zfp (s:=Instr.buildSlice ty n (ps.map fun(i,x)=>(i,a.eval x))) (V:= .slice (some ⟨w.heap.size,0,none⟩) n n) (ob:= .cells (m'.toList++[]).toArray e) (c:=n) hI hf hn (by unfold execOp;simp only [ho]) ?_ ⟨_,_,0,Rho.put_self,by omega,fun _=>rfl,rfl⟩
      (ZfR _ _ _ _ [] _ _ _ _ (f2.mono (VR.mono hle)) (fun _=>rfl) (by simp [hlen]) (by simp))
     have hps:(ps.map fun(i,x)=>(i,a.eval x)).toList=ps.toList.map fun p=>(p.1,a.eval p.2):=by simp
     have h24:¬n*te.size>2^24:=by
      have:(2:Nat)^24=16777216:=by decide
      omega
     by_cases h0:n*te.size=0
     · have hm0:((Array.range (n*te.size)).map (fun i=>z.cells[i % te.size]!))=#[]:=by rw [h0];simp
       have hm1:((Array.range (n*te.size)).map (fun i=>(#[]:Array Value)[i % 0]!))=#[]:=by rw [h0];simp
       rw [hm0] at f1;simp only [Instr.buildSlice,Sem.run_bind,run_und hd1,Result.andThen_ok,hTe.sizeOf,if_neg h24,if_pos h0,Sem.run_pure,hps];simp only [Array.size_empty,hm1,f1,Sem.run_bind,ZdE,Result.andThen_ok,Sem.run_pure];simp
     · simp only [Instr.buildSlice,Sem.run_bind,run_und hd1,Result.andThen_ok,hTe.sizeOf,if_neg h24,if_neg h0,Sem.run_pure,hps,hz1,hzs];simp only [f1,Sem.run_bind,ZdE,Result.andThen_ok,Sem.run_pure];simp
   · cases hh
 · cases hh
theorem ZiX (n:Nat)(h:n≤100000):IntKind.i64.wrap (n:Int)=n:=by
 have e:((2:Int)^64)=18446744073709551616:=by decide
 have e2:((2:Int)^63)=9223372036854775808:=by decide
 unfold IntKind.wrap;simp only [IntKind.bits,IntKind.signed,e,show 64 - 1=63 from rfl,e2];have:(n:Int) % 18446744073709551616=n:=by omega
 rw [this];have h2:decide ((n:Int)≥9223372036854775808)=false:=by simp;omega
 rw [h2];simp
theorem Zrh (hE:∀t ti,E.ty t=some ti→TyOk P t ti)(ht:TR ρ t a)(hI:IV n0 w0 ρ nx h w)(hf:fr<nx)(hn:ρ fr=none){ty:Nat} {x y:Operand} (ho:o.op= .makeSlice ty x y){h':Hp} (hh:eff E fr t h o.op=some (v,h')):
 Zax P n0 w0 ρ nx fr a o v h' w:=by
 rw [ho] at hh;simp only [eff,ZkD] at hh;obtain⟨ti,h1,hh⟩:=Zc hh;obtain⟨d,hd1,hd2⟩:=(hE _ _ h1).und;split at hh
 · rename_i e hk
   rw [hk] at hd2;cases d<;>first|exact hd2.elim|skip
   have hd3:e=_:=hd2;subst hd3;obtain⟨te,h2,hh⟩:=Zc hh;have hTe:=hE _ _ h2;obtain⟨p,h3,hh⟩:=Zc hh;obtain⟨q,h4,hh⟩:=Zc hh;split at hh
   · rename_i hc
     simp only [Option.some.injEq,Prod.mk.injEq] at hh;obtain⟨rfl,rfl⟩:=hh;obtain⟨k,hx⟩:=Zeu ht h3;obtain⟨k',hy⟩:=Zeu ht h4;obtain⟨info,hi1,hi2,hi3⟩:=hTe.info;obtain⟨z,hz1,hz2,_⟩:=hTe.zero;have hzs:z.cells.size=te.size:=by rw [←Array.length_toList,←(hz2 ρ).len,hTe.zlen]
     have hle:=Rho.put_le (x:=(w.heap.size,q)) hn;have hrz:=ZmG z.cells q;rw [hzs] at hrz;obtain⟨r,rfl⟩:∃r,q=p+r:=⟨q - p,by omega⟩
     have hsplit:=ZnM z.cells.toList r p;have wp:=ZiX p (by omega);have wq:=ZiX (p+r) (by omega);refine Zfp (s:=Instr.makeSlice ty (a.eval x) (a.eval y)) (V:= .slice (some ⟨w.heap.size,0,none⟩) p (p+r)) (ob:= .cells (zeros z.cells.toList p++zeros z.cells.toList r).toArray e) (c:=p+r) hI hf hn (by unfold execOp;simp only [ho]) ?_ ⟨_,_,0,Rho.put_self,by omega,fun _=>rfl,rfl⟩
      (ZfR _ _ _ _ (zeros z.cells.toList r) _ _ _ _ ((LR.zeros (hz2 ρ) p).mono (VR.mono hle)) (fun hd=> ?_) (by rw [←hsplit,Zgm,Array.length_toList,hzs]) (fun _=>by unfold maxLen;omega))
     · have hbig:(2:Int)^48=281474976710656:=by decide
       have htl:¬(((info.bytes:Int)*((p+r:Nat):Int))>2^48):=by
        rw [hbig,hi3];have h5:((te.bytes*(p+r):Nat):Int)≤((100000000:Nat):Int):=Int.ofNat_le.2 hc.2.2.1;rw [Int.natCast_mul] at h5;omega
       have hroom:¬(p+r)*info.bytes>roomBytes:=by
        have:roomBytes=140737488355328:=by decide
        rw [hi3,this,Nat.mul_comm];have:=hc.2.2.1;omega
       have hneg:¬(((p+r:Nat):Int)<0):=by omega
       have hneg2:¬((p:Int)<0):=by omega
       have hle2:¬((p:Int)>((p+r:Nat):Int)):=by omega
       have hrs:((Array.range ((p+r)*te.size)).map (fun i=>z.cells[i % te.size]!))=(zeros z.cells.toList p++zeros z.cells.toList r).toArray:=by
        apply Array.ext'
        rw [←hsplit];exact hrz
       simp only [Instr.makeSlice,hx,hy,asInt,asIntOf,Sem.run_bind,run_und hd1,Result.andThen_ok,Sem.run_pure,run_ti hi1,wp,wq];simp only [htl,hneg,hneg2,hle2,decide_false,Bool.or_false,Bool.false_eq_true,if_false,askRoom,Int.toNat_natCast,if_neg hroom,Sem.run_bind,Sem.run_pure,Result.andThen_ok,hTe.sizeOf];by_cases h0:(p+r)*te.size=0
       · have hm1:((Array.range ((p+r)*te.size)).map (fun i=>(#[]:Array Value)[i % 0]!))=(zeros z.cells.toList p++zeros z.cells.toList r).toArray:=by
          rw [←hrs,h0];simp
         simp only [if_pos h0,Sem.run_bind,Sem.run_pure,Result.andThen_ok,Array.size_empty,hm1,ZdE]
       · simp only [if_neg h0,Sem.run_bind,Sem.run_pure,Result.andThen_ok,hz1,hzs,hrs,ZdE]
     · have:r=0:=by
        split at hd
        · omega
        · omega
       subst this;rfl
   · cases hh
 · cases hh
theorem Zrg (hI:IV n0 w0 ρ nx h w)(hf:fr<nx)(hn:ρ fr=none){ty:Nat} {x:Option Operand} (ho:o.op= .makeMap ty x){h':Hp} (hh:eff E fr t h o.op=some (v,h')):
 Zax P n0 w0 ρ nx fr a o v h' w:=by
 rw [ho] at hh;cases x with
 |some x=>simp [eff] at hh
 |none=>
  simp only [eff,ZkC,Option.some.injEq,Prod.mk.injEq] at hh;obtain⟨rfl,rfl⟩:=hh;refine Zfp (s:=Instr.makeMap ty none) (V:= .map (some w.heap.size)) (ob:= .map #[] 0) (c:=0) hI hf hn (by unfold execOp;simp only [ho];rfl) rfl ⟨_,_,Rho.put_self,rfl⟩ ⟨[],0,Zfj _ _,trivial⟩
theorem Zrk (hE:∀t ti,E.ty t=some ti→TyOk P t ti)(ht:TR ρ t a)(hI:IV n0 w0 ρ nx h w)(hf:fr<nx)(hn:ρ fr=none){ty:Nat} {x:Operand} (ho:o.op= .range ty x){h':Hp} (hh:eff E fr t h o.op=some (v,h')):
 Zax P n0 w0 ρ nx fr a o v h' w:=by
 rw [ho] at hh;simp only [eff,ZkF] at hh;obtain⟨ti,h1,hh⟩:=Zc hh;obtain⟨d,hd1,hd2⟩:=(hE _ _ h1).und;split at hh
 · rename_i l hk hx
   rw [hk] at hd2;cases d<;>first|exact hd2.elim|skip
   have hX:a.eval x= .string (Bs l):=Zh ht hx;simp only [Option.some.injEq,Prod.mk.injEq] at hh;obtain⟨rfl,rfl⟩:=hh;refine Zfp (s:=Instr.range ty (a.eval x)) (V:= .pointer (some ⟨w.heap.size,0,none⟩)) (ob:= .stringIter (Bs l) 0) (c:=0) hI hf hn (by unfold execOp;simp only [ho]) ?_ ⟨_,_,Rho.put_self,rfl⟩ (Zfj _ _);simp only [Instr.range,Sem.run_bind,run_und hd1,Result.andThen_ok,hX,Sem.run_pure];rfl
 · cases hh
theorem Zrj (ht:TR ρ t a)(hI:IV n0 w0 ρ nx h w){x:Operand} {b:Bool} (ho:o.op= .next x b){h':Hp} (hh:eff E fr t h o.op=some (v,h')):
 Zax P n0 w0 ρ nx fr a o v h' w:=by
 rw [ho] at hh;cases b with
 |false=>simp [eff] at hh
 |true=>
  simp only [eff,eNext] at hh;split at hh
  · rename_i i hx
    split at hh
    · rename_i l pos hlk
      obtain⟨b,c,q1,q2⟩:=hI.ob _ (ZaS hlk);obtain⟨b',c',q3,hX⟩:∃b c,ρ i=some (b,c)∧a.eval x= .pointer (some ⟨b,0,none⟩):=Zh ht hx;simp only at q1;rw [q1] at q3;injection q3 with q3
      injection q3 with q3 q4
      subst q3;have q2':w.heap[b]? =some (.stringIter (Bs l) pos):=q2;split at hh
      · rename_i hlt
        simp only [Option.some.injEq,Prod.mk.injEq] at hh;obtain⟨rfl,rfl⟩:=hh;have hlt2:pos<(Bs l).size:=by rw [Zbs];exact hlt
        have hget:(Sem.getObj b Sem.pure).run P w= .ok (.stringIter (Bs l) pos) w:=by simp only [Sem.run,q2']
        refine⟨ρ,{w with heap:=w.heap.setIfInBounds b (.stringIter (Bs l) (pos+(Utf8.decode (Bs l) pos).2))},.tuple #[.bool true,goInt pos,.int .i32 (Utf8.decode (Bs l) pos).1],⟨[.bool true,goInt pos,.int .i32 (Utf8.decode (Bs l) pos).1],rfl,rfl,rfl,rfl,trivial⟩,.inl ?_,
         hI.turn (x:= .it l (pos+(Utf8.decode (Bs l) pos).2)) q1 ⟨_,ZaS hlk⟩ rfl rfl rfl (by simp) (fun k hk=>by simp only [Array.getElem?_setIfInBounds];rw [if_neg (fun e=>hk e.symm)]) ?_,ρ.le_refl,fun _ _=>rfl⟩
        · unfold execOp;simp only [ho,hX,Instr.next,getObj,Sem.run_bind,hget,Result.andThen_ok];rw [if_pos hlt2];simp only [setObj,Sem.run,q2',Result.andThen_ok,Sem.run_bind,Sem.run_pure]
        · show(w.heap.setIfInBounds b _)[b]? =_
          have hb:=(Array.getElem?_eq_some_iff.1 q2').1;simp [hb]
      · rename_i hge
        simp only [Option.some.injEq,Prod.mk.injEq] at hh;obtain⟨rfl,rfl⟩:=hh;have hge2:¬pos<(Bs l).size:=by rw [Zbs];exact hge
        have hget:(Sem.getObj b Sem.pure).run P w= .ok (.stringIter (Bs l) pos) w:=by simp only [Sem.run,q2']
        refine⟨ρ,w,.tuple #[.bool false],⟨[.bool false],rfl,rfl,trivial⟩,.inl ?_,hI,ρ.le_refl,fun _ _=>rfl⟩;unfold execOp;simp only [ho,hX,Instr.next,getObj,Sem.run_bind,hget,Result.andThen_ok];rw [if_neg hge2];rfl
    · cases hh
  · cases hh
end
end Ev
end Go.Proofs.YtlfinljfghhpdaaGreatDoor
