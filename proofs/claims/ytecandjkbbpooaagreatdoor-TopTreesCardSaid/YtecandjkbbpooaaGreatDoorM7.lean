/- Lemmas for a statement on the tops; conditions: as each says. -/
import Derived.Lib.AppendZeros
import Derived.Test.YtecandjkbbpooaaGreatDoorM6
set_option linter.unusedVariables false
set_option linter.unusedSimpArgs false
set_option maxRecDepth 100000
set_option maxHeartbeats 200000
namespace Go.Proofs.YtecandjkbbpooaaGreatDoor
open Go Go.RowKit
namespace Ev
def GOk (E:Env)(n0:Nat)(w0:World):Prop:=∀g l,E.gl g=some l→g<n0∧∃m:List Value,(∀j u,m[j]? =some u→w0.cell? ⟨g,j,none⟩=some u)∧∀ρ,LR ρ l m
section
variable {P:Program} {E:Env} {n0:Nat} {w0 w:World} {ρ:Rho} {nx fr:Nat} {h:Hp} {t:List AV} {a:Act} {o:Oper} {v:AV}
theorem ZrH (x:Nat×Ob)(h:Hp)(n:Nat):look (x::h) n=if x.1=n then some x.2 else look h n:=by
 show cond (Nat.beq x.1 n) (some x.2) (look h n)=_
 by_cases e:x.1=n
 · rw [if_pos e,e,Nat.beq_refl];rfl
 · have h1:Nat.beq x.1 n=false:=Zho e;rw [if_neg e,h1];rfl
theorem Zbe:∀{h:Hp} {i:Nat} {x:Ob},look h i=some x→(i,x)∈h
 |[],_,_,hx=>by cases hx
 |y::h,i,x,hx=>by
  rw [ZrH] at hx;split at hx
  · rename_i e
    injection hx with hx
    subst e hx;exact List.mem_cons_self ..
  · exact List.mem_cons_of_mem _ (Zbe hx)
theorem Zfx {i:Nat} {x:Ob}:∀{h:Hp} {y:Nat×Ob},y∈upd i x h→y=(i,x)∨(y∈h∧y.1≠i)
 |[],y,hy=>by simp [upd] at hy
 |z::h,y,hy=>by
  simp only [upd] at hy;split at hy
  · rcases List.mem_cons.1 hy with rfl|hy
    · exact .inl rfl
    · rcases Zfx hy with e|⟨h1,h2⟩
      · exact .inl e
      · exact .inr ⟨List.mem_cons_of_mem _ h1,h2⟩
  · rename_i hne
    rcases List.mem_cons.1 hy with rfl|hy
    · exact .inr ⟨List.mem_cons_self ..,hne⟩
    · rcases Zfx hy with e|⟨h1,h2⟩
      · exact .inl e
      · exact .inr ⟨List.mem_cons_of_mem _ h1,h2⟩
theorem Zeo {i:Nat}:∀{h:Hp} {y:Nat×Ob},y∈del i h→y∈h∧y.1≠i
 |[],y,hy=>by simp [del] at hy
 |z::h,y,hy=>by
  simp only [del] at hy;split at hy
  · obtain⟨h1,h2⟩:=Zeo hy;exact⟨List.mem_cons_of_mem _ h1,h2⟩
  · rename_i hne
    rcases List.mem_cons.1 hy with rfl|hy
    · exact⟨List.mem_cons_self ..,hne⟩
    · obtain⟨h1,h2⟩:=Zeo hy;exact⟨List.mem_cons_of_mem _ h1,h2⟩
theorem ZdM (hG:GOk E n0 w0)(hI:IV n0 w0 ρ nx h w){x:AV} {X:Value} {n:Nat} {l:List Cl} (hx:AR ρ x X)(hc:Zb4 E h x n=some l):
 ∃(b off:Nat) (m:List Value),X= .pointer (some ⟨b,off,none⟩)∧m.length=n∧LR ρ l m∧∀j u,m[j]? =some u→w.cell? ⟨b,off+j,none⟩=some u:=by
 have fin:∀(b off:Nat) (L:List Cl) (M:List Value) (rest:List Value) (ty:TypeId) (fz:Nat×Nat),w.heap[b]? =some (.cells (M++rest).toArray ty fz)→LR ρ L M→((L.drop off).take n).length=n→
  ∃m:List Value,m.length=n∧LR ρ ((L.drop off).take n) m∧∀j u,m[j]? =some u→w.cell? ⟨b,off+j,none⟩=some u:=by
  intro b off L M rest ty fz hb hl hn;have hl2:=(hl.drop off).take n;refine⟨(M.drop off).take n,by rw [←hl2.len,hn],hl2,fun j u hu=> ?_⟩;rw [cell_of_row w b _ _ ty fz hb];rw [List.getElem?_take] at hu;split at hu
  · rw [List.getElem?_drop] at hu;have hlt:=(List.getElem?_eq_some_iff.1 hu).1;simp only [List.getElem?_toArray];rw [List.getElem?_append_left hlt];exact hu
  · cases hu
 unfold Zb4 at hc;split at hc
 · rename_i i off
   split at hc
   · rename_i L ty sz row hlk
     simp only at hc;split at hc
     · rename_i hn
       injection hc with hc;subst hc
       obtain⟨b,c,h1,m,rest,fz,h2,h3,h4⟩:=hI.ob _ (Zbe hlk);obtain⟨b',c',h5,rfl⟩:∃b c,ρ i=some (b,c)∧X= .pointer (some ⟨b,off,none⟩):=hx;simp only at h1;rw [h1] at h5;injection h5 with h5
       injection h5 with h5 h6
       subst h5;obtain⟨m',q1,q2,q3⟩:=fin b off L m rest _ _ h2 h3 hn;exact⟨b,off,m',rfl,q1,q2,q3⟩
     · cases hc
   · cases hc
 · rename_i g off
   obtain⟨L,h1,hc⟩:=Zb hc;simp only at hc;split at hc
   · rename_i hn
     injection hc with hc;subst hc
     have hX:X= .pointer (some ⟨g,off,none⟩):=hx;subst hX;obtain⟨hg,m,h2,h3⟩:=hG _ _ h1;have hl2:=((h3 ρ).drop off).take n;refine⟨g,off,(m.drop off).take n,rfl,by rw [←hl2.len,hn],hl2,fun j u hu=> ?_⟩;rw [hI.low.cell (p:=⟨g,off+j,none⟩) hg];refine h2 (off+j) u ?_;rw [List.getElem?_take] at hu;split at hu
     · rw [List.getElem?_drop] at hu;exact hu
     · cases hu
   · cases hc
 · cases hc
theorem Zmu (b off:Nat)(m:List Value)(w:World)(h:∀j u,m[j]? =some u→w.cell? ⟨b,off+j,none⟩=some u):(loadCells ⟨b,off,none⟩ m.length).run P w= .ok m.toArray w:=
 run_loadCells_list w ⟨b,off,none⟩ m (fun j u hu=>by rw [add_eq];exact h j u hu)
theorem ZgB {ty:Nat} {ti:TI} (hT:TyOk P ty ti){l:List Cl} {m:List Value} (hm:mk ti l=some v)(hl:LR ρ l m)(hn:m.length=ti.size)(b off:Nat):
 ∃V,AR ρ v V∧∀w:World,(∀j u,m[j]? =some u→w.cell? ⟨b,off+j,none⟩=some u)→(Instr.loadAt ty (.pointer (some ⟨b,off,none⟩))).run P w= .ok V w:=by
 obtain⟨m1,m2⟩:=Zh3 hm hl;cases ha:ti.k.agg with
 |true=>
  refine⟨_,m1 ha,fun w hw=> ?_⟩;have hlc:=Zmu (P:=P) b off m w hw;rw [hn] at hlc;simp [Instr.loadAt,Instr.sureAddr,loadVar,hT.isAgg,ha,hT.sizeOf,hlc]
 |false=>
  obtain⟨x,h1,h2⟩:=m2 ha;refine⟨x,h2,fun w hw=> ?_⟩;have hc:=hw 0 x (by rw [h1];rfl);rw [Nat.add_zero] at hc;simp [Instr.loadAt,Instr.sureAddr,loadVar,hT.isAgg,ha,hc]
theorem ZrD (hE:∀t ti,E.ty t=some ti→TyOk P t ti)(hG:GOk E n0 w0)(hI:IV n0 w0 ρ nx h w)(ht:TR ρ t a){ty:Nat} {x:Operand} (hh:ZhZ E t h ty x=some v):
 ∃V,AR ρ v V∧(Instr.loadAt ty (a.eval x)).run P w= .ok V w:=by
 unfold ZhZ at hh;obtain⟨ti,h1,hh⟩:=Zb hh;obtain⟨u,h2,hh⟩:=Zb hh;obtain⟨l,h3,hh⟩:=Zb hh;obtain⟨b,off,m,hX,hn,hl,hc⟩:=ZdM hG hI (Zj ht h2) h3;obtain⟨V,hV,hr⟩:=ZgB (hE _ _ h1) hh hl hn b off;exact⟨V,hV,by rw [hX];exact hr w hc⟩
theorem Zce {h':Hp} {V:Value} {s:Sem Value} (hx:execOp a.eval o=(do let v←s;pure (.value v)))(hV:AR ρ v V)(hr:s.run P w= .ok V w)(hI:IV n0 w0 ρ nx h' w):ZaH P n0 w0 ρ nx fr a o v h' w:=
 ZcR hx hV hr hI ρ.le_refl (fun _ _=>rfl)
theorem Zqn (hE:∀t ti,E.ty t=some ti→TyOk P t ti)(hG:GOk E n0 w0)(ht:TR ρ t a)(hI:IV n0 w0 ρ nx h w){ty:Nat} {x:Operand} (ho:o.op= .load ty x){h':Hp} (hh:eff E fr t h o.op=some (v,h')):
 ZaH P n0 w0 ρ nx fr a o v h' w:=by
 rw [ho] at hh;simp only [eff] at hh;obtain⟨u,h1,hh⟩:=Zb hh;simp only [Option.some.injEq,Prod.mk.injEq] at hh;obtain⟨rfl,rfl⟩:=hh;obtain⟨V,hV,hr⟩:=ZrD hE hG hI ht h1;exact Zce (s:=Instr.loadAt ty (a.eval x)) (by unfold execOp;simp only [ho]) hV hr hI
theorem Zmw (g o:Nat)(t:TypeId)(fz:Nat×Nat):∀(vs:List Value) (i:Nat) (cur:Array Value) (w:World),w.heap[g]? =some (.cells cur t fz)→(∀j,j<cur.size→¬(fz.1≤j∧j<fz.2))→o+i+vs.length≤cur.size→(∀v∈vs,v.oneCell'=true)→
 (storeCells ⟨g,o,none⟩ vs i).run P w= .ok () (w.setRow g (cur.toList.take (o+i)++vs++cur.toList.drop (o+i+vs.length)).toArray)
 |[],i,cur,w,hg,_,_,_=>by
  simp only [storeCells,List.append_nil,List.length_nil,Nat.add_zero,List.take_append_drop,Array.toArray_toList];rw [setRow_self w g cur t fz hg];rfl
 |v::rest,i,cur,w,hg,hfz,hl,h1=>by
  have hi:o+i<cur.size:=by simp at hl;omega
  have hadd:(⟨g,o,none⟩:Addr).add i=⟨g,o+i,none⟩:=add_eq g o i;have hcell:w.cell? ⟨g,o+i,none⟩=some cur[o+i]:=by simp [World.cell?,hg,hi]
  have hfro:w.frozen? ⟨g,o+i,none⟩=false:=by
   have:=hfz (o+i) hi;obtain⟨lo,hi'⟩:=fz;simp only [World.frozen?,hg,Bool.and_eq_false_iff,decide_eq_false_iff_not];simp only at this;omega
  have hst:(store ((⟨g,o,none⟩:Addr).add i) v).run P w= .ok () (w.setRow g (cur.setIfInBounds (o+i) v)):=by
   rw [hadd,run_store P w _ v _ (h1 v (by simp)),hcell];simp [hfro,setCell_eq_setRow w g (o+i) cur t fz v hg]
  have ih:=Zmw g o t fz rest (i+1) (cur.setIfInBounds (o+i) v) (w.setRow g (cur.setIfInBounds (o+i) v)) (setRow_heap w g cur _ t _ hg) (by simpa using hfz) (by simp at hl⊢;omega) (fun x hx=>h1 x (by simp [hx]));simp only [storeCells,Sem.run_bind,hst,Result.andThen_ok,ih,setRow_setRow];congr 3
  have e:=list_seg_step cur.toList (o+i) v rest (by simp at hl⊢;omega);simpa [Array.toList_setIfInBounds,Nat.add_assoc] using e
theorem Zth (w:World)(g k:Nat)(cs:Array Value)(h:k≠g):(w.setRow g cs).heap[k]? =w.heap[k]?:=by
 unfold World.setRow;rw [Array.getElem?_modify,if_neg (fun e=>h e.symm)]
theorem Zti (w:World)(g:Nat)(cs:Array Value):(w.setRow g cs).heap.size=w.heap.size:=by
 unfold World.setRow;simp
theorem IV.turn {w':World} {i b c:Nat} {x:Ob} (hI:IV n0 w0 ρ nx h w)(hi:ρ i=some (b,c))(hm:∃y,(i,y)∈h)(hos:w'.os=w.os)(htp:w'.tape=w.tape)(hout:w'.output=w.output)(hsz:w'.heap.size=w.heap.size)
 (hoth:∀k,k≠b→w'.heap[k]? =w.heap[k]?) (hx:ObR ρ w' b c x):IV n0 w0 ρ nx (upd i x h) w':=by
 have hb:=hI.rng _ _ _ hi;obtain⟨y0,hy0⟩:=hm;refine⟨hI.fresh,⟨hos.trans hI.low.os,htp.trans hI.low.tape,hout.trans hI.low.output,by rw [hsz];exact hI.low.size,fun k hk=>(hoth k (by omega)).trans (hI.low.block k hk)⟩,hI.hn,fun j b' c' hj=>by rw [hsz];exact hI.rng j b' c' hj,?_,?_⟩
 · intro y hy;rcases Zfx hy with rfl|⟨h1,h2⟩
   · exact⟨b,c,hi,hx⟩
   · obtain⟨b',c',h3,h4⟩:=hI.ob y h1;exact⟨b',c',h3,h4.mono ρ.le_refl (hoth b' (hI.inj y h1 _ hy0 h2 _ _ _ _ h3 hi))⟩
 · intro y hy z hz hne b1 c1 b2 c2 e1 e2;rcases Zfx hy with rfl|⟨h1,h2⟩<;>rcases Zfx hz with rfl|⟨h3,h4⟩
   · exact absurd rfl hne
   · exact hI.inj _ hy0 z h3 hne _ _ _ _ e1 e2
   · exact hI.inj y h1 _ hy0 hne _ _ _ _ e1 e2
   · exact hI.inj y h1 z h3 hne _ _ _ _ e1 e2
theorem Zqv (hE:∀t ti,E.ty t=some ti→TyOk P t ti)(ht:TR ρ t a)(hI:IV n0 w0 ρ nx h w){ty:Nat} {x y:Operand} (ho:o.op= .store ty x y){h':Hp} (hh:eff E fr t h o.op=some (v,h')):
 ZaH P n0 w0 ρ nx fr a o v h' w:=by
 rw [ho] at hh;simp only [eff,ZkH] at hh;obtain⟨ti,h1,hh⟩:=Zb hh;split at hh
 · rename_i i off u hx hy
   split at hh
   · rename_i hc
     split at hh
     · rename_i l e z r hlk
       obtain⟨l',h2,hh⟩:=Zb hh;simp only [Zeu,Option.some.injEq,Prod.mk.injEq] at hh;obtain⟨rfl,rfl⟩:=hh;obtain⟨b,c,q1,m,rest,fz,q2,q3,q4,q5,q6,q9,q10⟩:=hI.ob _ (Zbe hlk);obtain⟨b',c',q7,hX⟩:∃b c,ρ i=some (b,c)∧a.eval x= .pointer (some ⟨b,off,none⟩):=Zj ht hx;simp only at q1;rw [q1] at q7;injection q7 with q7
       injection q7 with q7 q8
       subst q7;have hu:=(Zj ht hy).cells hc.1;obtain⟨s1,s2⟩:=ZmN h2 q3 hu;have hsize:(a.eval y).cells.size=ti.size:=by rw [←hc.2,hu.len,Array.length_toList]
       have hrun:=Zmw (P:=P) b off e fz (a.eval y).cells.toList 0 (m++rest).toArray w q2 (by simpa using q6) (by simp at s2⊢;omega) (LR.one' hu);generalize hcs:(List.toArray (_:List Value))=CS at hrun;refine⟨ρ,w.setRow b CS,undef,ZeK ρ,.inr ⟨rfl,?_⟩,hI.turn (x:= .cl l' e z r) q1 ⟨_,Zbe hlk⟩ rfl rfl rfl (Zti _ _ _) (fun k hk=>Zth _ _ _ _ hk) ⟨m.take off++((a.eval y).cells.toList++m.drop (off+(a.eval y).cells.toList.length)),rest,fz,?_,s1,q4,?_,?_,q9,q10⟩,ρ.le_refl,fun _ _=>rfl⟩
       · unfold execOp;simp only [ho,hX];simp only [Instr.storeAt,Instr.sureAddr,storeVar,Sem.run_bind,Sem.run_pure,Result.andThen_ok,(hE _ _ h1).sizeOf,hsize,ne_eq,not_true,if_false,hrun]
       · rw [setRow_heap w b _ _ e fz q2,←hcs];congr 2
         simp only [Nat.add_zero,List.append_assoc];congr 1
         have t1:(m++rest).take off=m.take off:=by rw [List.take_append_of_le_length (by omega)]
         have t2:(m++rest).drop (off+(a.eval y).cells.toList.length)=m.drop (off+(a.eval y).cells.toList.length)++rest:=by rw [List.drop_append_of_le_length (by omega)]
         simp only [t1,t2]
       · have:(m.take off++((a.eval y).cells.toList++m.drop (off+(a.eval y).cells.toList.length))).length=m.length:=by simp at s2⊢;omega
         rw [List.length_append,this,←List.length_append,q5]
       · have:(m.take off++((a.eval y).cells.toList++m.drop (off+(a.eval y).cells.toList.length))).length=m.length:=by simp at s2⊢;omega
         rw [List.length_append,this,←List.length_append];exact q6
     · cases hh
   · cases hh
 · cases hh
end
end Ev
namespace Ev
section
variable {P:Program} {E:Env} {n0:Nat} {w0 w:World} {ρ:Rho} {nx fr:Nat} {h:Hp} {t:List AV} {a:Act} {o:Oper} {v:AV}
theorem Zf0 {s:Sem Value} {V:Value} {ob:Obj} {c:Nat} {x:Ob} (hI:IV n0 w0 ρ nx h w)(hf:fr<nx)(hn:ρ fr=none)(hx:execOp a.eval o=(do let v←s;pure (.value v)))(hr:s.run P w= .ok V (w.alloc ob))
 (hV:AR (ρ.put fr (w.heap.size,c)) v V) (hO:ObR (ρ.put fr (w.heap.size,c)) (w.alloc ob) w.heap.size c x):ZaH P n0 w0 ρ nx fr a o v ((fr,x)::h) w:=
 ZcR hx hV hr (hI.new hf hn ob c x hO) (Rho.put_le hn) (fun _ hi=>Rho.put_ne hi)
theorem Zql (hE:∀t ti,E.ty t=some ti→TyOk P t ti)(ht:TR ρ t a)(hI:IV n0 w0 ρ nx h w)(hf:fr<nx)(hn:ρ fr=none){ty n:Nat} {ps:Array (Nat×Operand)} (ho:o.op= .buildSlice ty n ps){h':Hp} (hh:eff E fr t h o.op=some (v,h')):
 ZaH P n0 w0 ρ nx fr a o v h' w:=by
 rw [ho] at hh;simp only [eff,Zkz] at hh;obtain⟨ti,h1,hh⟩:=Zb hh;obtain⟨d,hd1,hd2⟩:=(hE _ _ h1).und;split at hh
 · rename_i e hk
   rw [hk] at hd2;cases d<;>first|exact hd2.elim|skip
   have hd3:e=_:=hd2;subst hd3;obtain⟨te,h2,hh⟩:=Zb hh;have hTe:=hE _ _ h2;split at hh
   · rename_i hc
     obtain⟨l,h3,hh⟩:=Zb hh;simp only [Option.some.injEq,Prod.mk.injEq] at hh;obtain⟨rfl,rfl⟩:=hh;obtain⟨z,hz1,hz2,_⟩:=hTe.zero;have hzs:z.cells.size=te.size:=by rw [←Array.length_toList,←(hz2 ρ).len,hTe.zlen]
     have hle:=Rho.put_le (x:=(w.heap.size,n)) hn;have hz3:=LR.zeros (hz2 ρ) n;have hrz:=Zmm z.cells n;rw [hzs] at hrz;rw [←hrz] at hz3;obtain⟨m',f1,f2⟩:=Zf7 ht h3 hz3;have hlen:m'.size=n*te.size:=by
      have q1:∀(ps:List (Nat×Operand)) (l l':List Cl),Zcx (fun i=>some (i*te.size,te.size)) t l ps=some l'→l'.length=l.length:=by
       intro ps;induction ps with
       |nil=>intro l l' h;simp only [Zcx,Option.some.injEq] at h;rw [h]
       |cons p ps ih=>
        intro l l' h;obtain⟨i,x⟩:=p;simp only [Zcx] at h;obtain⟨os,_,h⟩:=Zb h;obtain⟨u,_,h⟩:=Zb h;split at h
        · obtain⟨l1,h1,h⟩:=Zb h;rw [ih _ _ h];unfold Zfr at h1;split at h1
          · injection h1 with h1;subst h1;simp;omega
          · cases h1
        · cases h
      rw [←Array.length_toList,←f2.len,q1 _ _ _ h3,ZgS,hTe.zlen]
     refine Zf0 (s:=Instr.buildSlice ty n (ps.map fun(i,x)=>(i,a.eval x))) (V:= .slice (some ⟨w.heap.size,0,none⟩) n n) (ob:= .cells (m'.toList++[]).toArray e) (c:=n) hI hf hn (by unfold execOp;simp only [ho]) ?_ ⟨_,_,0,Rho.put_self,by omega,fun _=>rfl,rfl⟩
      (Zgp _ _ _ _ [] _ _ _ _ (f2.mono (VR.mono hle)) (fun _=>rfl) (by simp [hlen]) (by simp))
     have hps:(ps.map fun(i,x)=>(i,a.eval x)).toList=ps.toList.map fun p=>(p.1,a.eval p.2):=by simp
     have h24:¬n*te.size>2^24:=by
      have:(2:Nat)^24=16777216:=by decide
      omega
     by_cases h0:n*te.size=0
     · have hm0:((Array.range (n*te.size)).map (fun i=>z.cells[i % te.size]!))=#[]:=by rw [h0];simp
       have hm1:((Array.range (n*te.size)).map (fun i=>(#[]:Array Value)[i % 0]!))=#[]:=by rw [h0];simp
       rw [hm0] at f1;simp only [Instr.buildSlice,Sem.run_bind,Zn hd1,Result.andThen_ok,hTe.sizeOf,if_neg h24,if_pos h0,Sem.run_pure,hps];simp only [Array.size_empty,hm1,f1,Sem.run_bind,ZdZ,Result.andThen_ok,Sem.run_pure];simp
     · simp only [Instr.buildSlice,Sem.run_bind,Zn hd1,Result.andThen_ok,hTe.sizeOf,if_neg h24,if_neg h0,Sem.run_pure,hps,hz1,hzs];simp only [f1,Sem.run_bind,ZdZ,Result.andThen_ok,Sem.run_pure];simp
   · cases hh
 · cases hh
theorem ZiP (n:Nat)(h:n≤100000):IntKind.i64.wrap (n:Int)=n:=by
 have e:((2:Int)^64)=18446744073709551616:=by decide
 have e2:((2:Int)^63)=9223372036854775808:=by decide
 unfold IntKind.wrap;simp only [IntKind.bits,IntKind.signed,e,show 64 - 1=63 from rfl,e2];have:(n:Int) % 18446744073709551616=n:=by omega
 rw [this];have h2:decide ((n:Int)≥9223372036854775808)=false:=by simp;omega
 rw [h2];simp
theorem Zqq (hE:∀t ti,E.ty t=some ti→TyOk P t ti)(ht:TR ρ t a)(hI:IV n0 w0 ρ nx h w)(hf:fr<nx)(hn:ρ fr=none){ty:Nat} {x y:Operand} (ho:o.op= .makeSlice ty x y){h':Hp} (hh:eff E fr t h o.op=some (v,h')):
 ZaH P n0 w0 ρ nx fr a o v h' w:=by
 rw [ho] at hh;simp only [eff,ZkD] at hh;obtain⟨ti,h1,hh⟩:=Zb hh;obtain⟨d,hd1,hd2⟩:=(hE _ _ h1).und;split at hh
 · rename_i e hk
   rw [hk] at hd2;cases d<;>first|exact hd2.elim|skip
   have hd3:e=_:=hd2;subst hd3;obtain⟨te,h2,hh⟩:=Zb hh;have hTe:=hE _ _ h2;obtain⟨p,h3,hh⟩:=Zb hh;obtain⟨q,h4,hh⟩:=Zb hh;split at hh
   · rename_i hc
     simp only [Option.some.injEq,Prod.mk.injEq] at hh;obtain⟨rfl,rfl⟩:=hh;obtain⟨k,hx⟩:=Ze8 ht h3;obtain⟨k',hy⟩:=Ze8 ht h4;obtain⟨info,hi1,hi2,hi3⟩:=hTe.info;obtain⟨z,hz1,hz2,_⟩:=hTe.zero;have hzs:z.cells.size=te.size:=by rw [←Array.length_toList,←(hz2 ρ).len,hTe.zlen]
     have hle:=Rho.put_le (x:=(w.heap.size,q)) hn;have hrz:=Zmm z.cells q;rw [hzs] at hrz;obtain⟨r,rfl⟩:∃r,q=p+r:=⟨q - p,by omega⟩
     have hsplit:=Zni z.cells.toList r p;have wp:=ZiP p (by omega);have wq:=ZiP (p+r) (by omega);refine Zf0 (s:=Instr.makeSlice ty (a.eval x) (a.eval y)) (V:= .slice (some ⟨w.heap.size,0,none⟩) p (p+r)) (ob:= .cells (zeros z.cells.toList p++zeros z.cells.toList r).toArray e) (c:=p+r) hI hf hn (by unfold execOp;simp only [ho]) ?_ ⟨_,_,0,Rho.put_self,by omega,fun _=>rfl,rfl⟩
      (Zgp _ _ _ _ (zeros z.cells.toList r) _ _ _ _ ((LR.zeros (hz2 ρ) p).mono (VR.mono hle)) (fun hd=> ?_) (by rw [←hsplit,ZgS,Array.length_toList,hzs]) (fun _=>by unfold maxLen;omega))
     · have hbig:(2:Int)^48=281474976710656:=by decide
       have htl:¬(((info.bytes:Int)*((p+r:Nat):Int))>2^48):=by
        rw [hbig,hi3];have h5:((te.bytes*(p+r):Nat):Int)≤((100000000:Nat):Int):=Int.ofNat_le.2 hc.2.2.1;rw [Int.natCast_mul] at h5;omega
       have hroom:¬(p+r)*info.bytes>roomBytes:=by
        have:roomBytes=140737488355328:=by decide
        rw [hi3,this,Nat.mul_comm];have:=hc.2.2.1;omega
       have hneg:¬(((p+r:Nat):Int)<0):=by omega
       have hneg2:¬((p:Int)<0):=by omega
       have hle2:¬((p:Int)>((p+r:Nat):Int)):=by omega
       have hrs:((Array.range ((p+r)*te.size)).map (fun i=>z.cells[i % te.size]!))=(zeros z.cells.toList p++zeros z.cells.toList r).toArray:=by
        apply Array.ext'
        rw [←hsplit];exact hrz
       simp only [Instr.makeSlice,hx,hy,asInt,asIntOf,Sem.run_bind,Zn hd1,Result.andThen_ok,Sem.run_pure,ZcE hi1,wp,wq];simp only [htl,hneg,hneg2,hle2,decide_false,Bool.or_false,Bool.false_eq_true,if_false,askRoom,Int.toNat_natCast,if_neg hroom,Sem.run_bind,Sem.run_pure,Result.andThen_ok,hTe.sizeOf];by_cases h0:(p+r)*te.size=0
       · have hm1:((Array.range ((p+r)*te.size)).map (fun i=>(#[]:Array Value)[i % 0]!))=(zeros z.cells.toList p++zeros z.cells.toList r).toArray:=by
          rw [←hrs,h0];simp
         simp only [if_pos h0,Sem.run_bind,Sem.run_pure,Result.andThen_ok,Array.size_empty,hm1,ZdZ]
       · simp only [if_neg h0,Sem.run_bind,Sem.run_pure,Result.andThen_ok,hz1,hzs,hrs,ZdZ]
     · have:r=0:=by
        split at hd
        · omega
        · omega
       subst this;rfl
   · cases hh
 · cases hh
theorem Zqp (hI:IV n0 w0 ρ nx h w)(hf:fr<nx)(hn:ρ fr=none){ty:Nat} {x:Option Operand} (ho:o.op= .makeMap ty x){h':Hp} (hh:eff E fr t h o.op=some (v,h')):
 ZaH P n0 w0 ρ nx fr a o v h' w:=by
 rw [ho] at hh;cases x with
 |some x=>simp [eff] at hh
 |none=>
  simp only [eff,ZkC,Option.some.injEq,Prod.mk.injEq] at hh;obtain⟨rfl,rfl⟩:=hh;refine Zf0 (s:=Instr.makeMap ty none) (V:= .map (some w.heap.size)) (ob:= .map #[] 0) (c:=0) hI hf hn (by unfold execOp;simp only [ho];rfl) rfl ⟨_,_,Rho.put_self,rfl⟩ ⟨[],0,ZfT _ _,trivial⟩
theorem Zqt (hE:∀t ti,E.ty t=some ti→TyOk P t ti)(ht:TR ρ t a)(hI:IV n0 w0 ρ nx h w)(hf:fr<nx)(hn:ρ fr=none){ty:Nat} {x:Operand} (ho:o.op= .range ty x){h':Hp} (hh:eff E fr t h o.op=some (v,h')):
 ZaH P n0 w0 ρ nx fr a o v h' w:=by
 rw [ho] at hh;simp only [eff,ZkF] at hh;obtain⟨ti,h1,hh⟩:=Zb hh;obtain⟨d,hd1,hd2⟩:=(hE _ _ h1).und;split at hh
 · rename_i l hk hx
   rw [hk] at hd2;cases d<;>first|exact hd2.elim|skip
   have hX:a.eval x= .string (Bs l):=Zj ht hx;simp only [Option.some.injEq,Prod.mk.injEq] at hh;obtain⟨rfl,rfl⟩:=hh;refine Zf0 (s:=Instr.range ty (a.eval x)) (V:= .pointer (some ⟨w.heap.size,0,none⟩)) (ob:= .stringIter (Bs l) 0) (c:=0) hI hf hn (by unfold execOp;simp only [ho]) ?_ ⟨_,_,Rho.put_self,rfl⟩ (ZfT _ _);simp only [Instr.range,Sem.run_bind,Zn hd1,Result.andThen_ok,hX,Sem.run_pure];rfl
 · cases hh
theorem Zqs (ht:TR ρ t a)(hI:IV n0 w0 ρ nx h w){x:Operand} {b:Bool} (ho:o.op= .next x b){h':Hp} (hh:eff E fr t h o.op=some (v,h')):
 ZaH P n0 w0 ρ nx fr a o v h' w:=by
 rw [ho] at hh;cases b with
 |false=>simp [eff] at hh
 |true=>
  simp only [eff,eNext] at hh;split at hh
  · rename_i i hx
    split at hh
    · rename_i l pos hlk
      obtain⟨b,c,q1,q2⟩:=hI.ob _ (Zbe hlk);obtain⟨b',c',q3,hX⟩:∃b c,ρ i=some (b,c)∧a.eval x= .pointer (some ⟨b,0,none⟩):=Zj ht hx;simp only at q1;rw [q1] at q3;injection q3 with q3
      injection q3 with q3 q4
      subst q3;have q2':w.heap[b]? =some (.stringIter (Bs l) pos):=q2;split at hh
      · rename_i hlt
        simp only [Option.some.injEq,Prod.mk.injEq] at hh;obtain⟨rfl,rfl⟩:=hh;have hlt2:pos<(Bs l).size:=by rw [ZbM];exact hlt
        have hget:(Sem.getObj b Sem.pure).run P w= .ok (.stringIter (Bs l) pos) w:=by simp only [Sem.run,q2']
        refine⟨ρ,{w with heap:=w.heap.setIfInBounds b (.stringIter (Bs l) (pos+(Utf8.decode (Bs l) pos).2))},.tuple #[.bool true,goInt pos,.int .i32 (Utf8.decode (Bs l) pos).1],⟨[.bool true,goInt pos,.int .i32 (Utf8.decode (Bs l) pos).1],rfl,rfl,rfl,rfl,trivial⟩,.inl ?_,
         hI.turn (x:= .it l (pos+(Utf8.decode (Bs l) pos).2)) q1 ⟨_,Zbe hlk⟩ rfl rfl rfl (by simp) (fun k hk=>by simp only [Array.getElem?_setIfInBounds];rw [if_neg (fun e=>hk e.symm)]) ?_,ρ.le_refl,fun _ _=>rfl⟩
        · unfold execOp;simp only [ho,hX,Instr.next,getObj,Sem.run_bind,hget,Result.andThen_ok];rw [if_pos hlt2];simp only [setObj,Sem.run,q2',Result.andThen_ok,Sem.run_bind,Sem.run_pure]
        · show(w.heap.setIfInBounds b _)[b]? =_
          have hb:=(Array.getElem?_eq_some_iff.1 q2').1;simp [hb]
      · rename_i hge
        simp only [Option.some.injEq,Prod.mk.injEq] at hh;obtain⟨rfl,rfl⟩:=hh;have hge2:¬pos<(Bs l).size:=by rw [ZbM];exact hge
        have hget:(Sem.getObj b Sem.pure).run P w= .ok (.stringIter (Bs l) pos) w:=by simp only [Sem.run,q2']
        refine⟨ρ,w,.tuple #[.bool false],⟨[.bool false],rfl,rfl,trivial⟩,.inl ?_,hI,ρ.le_refl,fun _ _=>rfl⟩;unfold execOp;simp only [ho,hX,Instr.next,getObj,Sem.run_bind,hget,Result.andThen_ok];rw [if_neg hge2];rfl
    · cases hh
  · cases hh
end
end Ev
namespace Ev
open Go.Lib
theorem ZiY (zv:Value)(m:Nat):Builtin.zeroCells #[zv] m=(List.replicate m zv).toArray:=by
 unfold Builtin.zeroCells;apply Array.ext
 · simp
 · intro i h1 h2;simp [Nat.mod_one]
section
variable {P:Program}
theorem ZsT (w:World)(base:Nat)(t tn ty e:TypeId)(i:TypeInfo)(z zv:Value)(ht:P.underlying t=some (.slice e))(htn:P.underlying tn=some (.int .i64))(hi:P.info? e=some i)(hz:i.zero=some z)
 (hsize:i.size=1) (hby:i.bytes=1) (hzc:z.cells=#[zv]) (h1:zv.oneCell'=true) (v:Value) (n:Nat) (xs:List Value) (hown:w.ownsRow base e 1 v n xs) (m:Nat) (hm:0<m) (hN:n+m≤100000) (hbase:base≤w.heap.size):
 ∃v' w',(Builtin.append_ #[t,tn] ty #[v,.int .i64 m]).run P w= .ok v' w'∧w'.ownsRow base e 1 v' (n+m) (xs++List.replicate m zv)∧w.grownBy w' v.ownBlock∧(v'.ownBlock=v.ownBlock∨v'.ownBlock=some w.heap.size):=by
 have hlen:(xs++List.replicate m zv).length=(n+m)*1:=by rw [List.length_append,hown.1];simp
 have hw:IntKind.i64.wrap (m:Int)=m:=ZiP m (by omega);have hneg:¬((m:Int)<0):=by omega
 have h48i:¬(281474976710656<(m:Int)):=by omega
 have hm0:¬m=0:=by omega
 have h1a:∀u∈List.replicate m zv,u.oneCell'=true:=fun u hu=>by rw [List.eq_of_mem_replicate hu];exact h1
 have grown:∀(old:Nat),old<n+m→∀(row:Option Nat),
  (w.drew.alloc (.cells (xs.toArray++(List.replicate m zv).toArray++Builtin.zeroCells z.cells (grownCap w (n+m) old e - (n+m))) e)).ownsRow base e 1
   (.slice (some ⟨w.heap.size,0,none⟩) (n+m) (grownCap w (n+m) old e)) (n+m) (xs++List.replicate m zv)∧
  w.grownBy (w.drew.alloc (.cells (xs.toArray++(List.replicate m zv).toArray++Builtin.zeroCells z.cells (grownCap w (n+m) old e - (n+m))) e)) row:=by
  intro old ho row;have hge:=grownCap_ge w (n+m) old e;have hcm:grownCap w (n+m) old e≤maxLen:=grownCap_le_maxLen w (n+m) old e (by unfold maxLen;omega);refine⟨⟨hlen,.inr ⟨w.heap.size,_,_,rfl,hbase,heap_alloc_new w.drew _,hge,hcm,?_,?_⟩⟩,⟨rfl,rfl,rfl,by simp,fun k hk _=>heap_alloc_old w.drew _ k hk⟩⟩
  · rw [hzc];simp only [Array.size_append,List.size_toArray,size_zeroCells,hown.1,List.length_replicate];simp;omega
  · simp only [Array.toList_append,List.append_assoc];rw [←List.append_assoc,←hlen];exact List.take_left
 rcases hown.2 with⟨rfl,rfl⟩|⟨g,cap,cur,rfl,hbg,hg,hnc,hcm,hcs,htake⟩
 · have hx:xs=[]:=List.eq_nil_of_length_eq_zero (by simpa using hown.1);subst hx;have hr:=run_append_nil_zeros (P:=P) w t tn ty e i z .i64 .i64 ht htn hi hz m hm (by omega) (by omega) (by rw [hby];omega);have hgr:=grown 0 (by omega) (Value.ownBlock (.slice none 0 0));rw [hzc,ZiY] at hr;simp only [Nat.zero_add,List.nil_append,Array.empty_append,hzc] at hgr⊢;exact⟨_,_,hr,hgr.1,hgr.2,.inr rfl⟩
 · by_cases hroom:n+m≤cap
   · have hfit:n*1+(List.replicate m zv).length≤cur.size:=by rw [hcs];simp;omega
     have hst:=run_storeCells_at P g (n*1) e (List.replicate m zv) 0 cur w hg (by simpa using hfit) h1a;simp only [Nat.add_zero] at hst;have hr:(Builtin.append_ #[t,tn] ty #[.slice (some ⟨g,0,none⟩) n cap,.int .i64 m]).run P w= .ok (.slice (some ⟨g,0,none⟩) (n+m) cap) (w.setRow g (cur.toList.take (n*1)++List.replicate m zv++cur.toList.drop (n*1+(List.replicate m zv).length)).toArray):=by
      simp [Builtin.append_,run_underlying ht,run_underlying htn,sizeOf,typeInfo,zeroValue,hi,hz,hsize,hby,hzc,ZiY,asInt,asIntOf,hw,hneg,h48i,hroom,hm0,Addr.add_lit,Nat.mul_one] at hst⊢;rw [hst];rfl
     refine⟨_,_,hr,⟨hlen,.inr ⟨g,cap,_,rfl,hbg,setRow_heap w g cur _ e _ hg,hroom,hcm,?_,?_⟩⟩,⟨rfl,rfl,rfl,by simp,fun k _ hk=>setRow_other w g k _ (fun e=>hk (by simp [Value.ownBlock,e]))⟩,.inl rfl⟩
     · simp only [List.size_toArray,List.length_append,List.length_take,List.length_drop,Array.length_toList];omega
     · rw [htake,←hlen];exact List.take_left
   · have holds:∀j u,xs[j]? =some u→w.cell? ((⟨g,0,none⟩:Addr).add j)=some u:=hown.cells (g:=g) rfl;have hn:¬(n+m≤cap):=by omega
     have h63':¬(9223372036854775807<((n:Int)+(m:Int))):=by omega
     have h48':¬(281474976710656<Builtin.nextslicecap (n+m) cap):=by
      have:=growslice_fits (need:=n+m) (bytes:=1) (by omega:cap<n+m) (by omega);omega
     have hfo:=run_firstCells_some (P:=P) w.drew 1 n ⟨g,0,none⟩ n cap xs hown.1 (by simpa using holds);have hr:(Builtin.append_ #[t,tn] ty #[.slice (some ⟨g,0,none⟩) n cap,.int .i64 m]).run P w= .ok (.slice (some ⟨w.heap.size,0,none⟩) (n+m) (grownCap w (n+m) cap e)) (w.drew.alloc (.cells (xs.toArray++(List.replicate m zv).toArray++Builtin.zeroCells z.cells (grownCap w (n+m) cap e - (n+m))) e)):=by
      simp [Builtin.append_,run_underlying ht,run_underlying htn,sizeOf,typeInfo,zeroValue,hi,hz,hsize,hby,hzc,ZiY,asInt,asIntOf,hw,hneg,h48i,hn,h63',h48',hm0,Question.forced,hfo,newRow,grownCap]
     have hgr:=grown cap (by omega) (Value.ownBlock (.slice (some ⟨g,0,none⟩) n cap));exact⟨_,_,hr,hgr.1,hgr.2,.inr rfl⟩
end
section
variable {P:Program} {E:Env} {n0:Nat} {w0 w:World} {ρ:Rho} {nx fr:Nat} {h:Hp} {t:List AV} {a:Act} {o:Oper} {v:AV}
theorem IV.grow {w':World} {h1:Hp} {g c b0:Nat} {x:Ob} (hI:IV n0 w0 ρ nx h w)(hf:fr<nx)(hn:ρ fr=none)(hsub:∀y∈h1,y∈h)(hos:w'.os=w.os)(htp:w'.tape=w.tape)(hout:w'.output=w.output)(hsz:w.heap.size≤w'.heap.size)
 (hb0:n0≤b0) (hg0:n0≤g) (hg1:g<w'.heap.size) (hoth:∀k,k<w.heap.size→k≠g→k≠b0→w'.heap[k]? =w.heap[k]?) (hapart:∀y∈h1,∀b c',ρ y.1=some (b,c')→b≠g∧b≠b0)
 (hx:ObR (ρ.put fr (g,c)) w' g c x):IV n0 w0 (ρ.put fr (g,c)) nx ((fr,x)::h1) w':=by
 have hle:=Rho.put_le (x:=(g,c)) hn;have old:∀y∈h,∀b c1,ρ.put fr (g,c) y.1=some (b,c1)→ρ y.1=some (b,c1):=by
  intro y hy b c1 hb;obtain⟨b2,c3,h1,_⟩:=hI.ob y hy;rw [hle _ _ h1] at hb;rw [h1];exact hb
 refine⟨fun i hi=>by rw [Rho.put_ne (by omega)];exact hI.fresh i hi,⟨hos.trans hI.low.os,htp.trans hI.low.tape,hout.trans hI.low.output,Nat.le_trans hI.low.size hsz,fun k hk=>(hoth k (Nat.lt_of_lt_of_le hk hI.size) (by omega) (by omega)).trans (hI.low.block k hk)⟩,hI.hn,?_,?_,?_⟩
 · intro i b c' hi;by_cases e:i=fr
   · subst e;rw [Rho.put_self] at hi;injection hi with hi
     injection hi with h1 h2
     subst h1;exact⟨hg0,hg1⟩
   · rw [Rho.put_ne e] at hi;have:=hI.rng i b c' hi;omega
 · intro y hy;rcases List.mem_cons.1 hy with rfl|hy
   · exact⟨_,_,Rho.put_self,hx⟩
   · obtain⟨b,c',h1,h2⟩:=hI.ob y (hsub y hy);exact⟨b,c',hle _ _ h1,h2.mono hle (hoth b (hI.rng _ _ _ h1).2 (hapart y hy _ _ h1).1 (hapart y hy _ _ h1).2)⟩
 · intro y hy z hz hne b c1 b' c2 hb hb';rcases List.mem_cons.1 hy with rfl|hy<;>rcases List.mem_cons.1 hz with rfl|hz
   · exact absurd rfl hne
   · have e:=old z (hsub z hz) _ _ hb';rw [Rho.put_self] at hb;injection hb with hb
     injection hb with h1 h2
     rw [←h1];exact fun ee=>(hapart z hz _ _ e).1 ee.symm
   · have e:=old y (hsub y hy) _ _ hb;rw [Rho.put_self] at hb';injection hb' with hb'
     injection hb' with h1 h2
     rw [←h1];exact(hapart y hy _ _ e).1
   · exact hI.inj y (hsub y hy) z (hsub z hz) hne _ _ _ _ (old y (hsub y hy) _ _ hb) (old z (hsub z hz) _ _ hb')
theorem ZjU {ts e:Nat} {te:TI} (hd:P.underlying ts=some (.slice e))(hTe:TyOk P e te)(hby:te.bytes≤1000)(hsz:te.size≠0)(ty:TypeId){V:Value} {n:Nat} {xs:List Value} (hown:w.ownsRow n0 e te.size V n xs)
 {b o2 len2 c2:Nat} {m2:List Value} (hm2:m2.length=len2*te.size) (hc2:∀j u,m2[j]? =some u→w.cell? ⟨b,o2+j,none⟩=some u) (h1:∀u∈m2,u.oneCell'=true) (hlim:n+len2≤100000) (hl0:len2≠0) (hn0:n0≤w.heap.size):
 ∃g c cur w',(Builtin.append_ #[ts,ts] ty #[V,.slice (some ⟨b,o2,none⟩) len2 c2]).run P w= .ok (.slice (some ⟨g,0,none⟩) (n+len2) c) w'∧n0≤g∧g<w'.heap.size∧(some g=V.ownBlock∨g=w.heap.size)∧n+len2≤c∧c≤maxLen∧
  w'.heap[g]? =some (.cells cur e (0,0))∧cur.size=c*te.size∧cur.toList.take ((n+len2)*te.size)=xs++m2∧w.grownBy w' V.ownBlock:=by
 obtain⟨info,hi1,hi2,hi3⟩:=hTe.info;obtain⟨info',desc,z,q1,q2,q3,q4,q5,q6,q7,_⟩:=hTe.ex;rw [hi1] at q1;injection q1 with q1
 subst q1;have hzs:z.cells.size=te.size:=by rw [←Array.length_toList,←(q7 (fun _=>none)).len,hTe.zlen]
 obtain⟨v',w',r1,r2,r3,r4,r5⟩:=run_append_own_at (P:=P) w n0 ts ty e info z te.size te.bytes hd hi1 q6 hi2 hi3 hzs (by omega) V n xs hown ⟨b,o2,none⟩ len2 c2 m2 hm2 (fun j u hu=>by rw [add_eq];exact hc2 j u hu) h1 (by unfold maxLen;omega) (by
  have:(n+len2)*te.bytes≤100000*1000:=Nat.mul_le_mul hlim hby;omega) hn0
 rcases r2.2 with⟨e1,e2⟩|⟨g,c,cur,rfl,hbg,hg,hnc,hcm,hcs,htk⟩
 · omega
 · refine⟨g,c,cur,w',r1,hbg,(Array.getElem?_eq_some_iff.1 hg).1,?_,hnc,hcm,hg,hcs,htk,r3⟩;simp only [Value.ownBlock] at r5;rcases r5 with r5|r5
   · exact .inl r5
   · exact .inr (by simpa using r5)
theorem ZjV {ts tn e:Nat} {te:TI} (hd:P.underlying ts=some (.slice e))(hdn:P.underlying tn=some (.int .i64))(hTe:TyOk P e te)(hby:te.bytes=1)(hsz:te.size=1)(ty:TypeId){V:Value} {n:Nat} {xs:List Value} (hown:w.ownsRow n0 e te.size V n xs)
 {m:Nat} (hlim:n+m≤100000) (hl0:0<m) (hn0:n0≤w.heap.size):
 ∃g c cur w' z,(Builtin.append_ #[ts,tn] ty #[V,.int .i64 m]).run P w= .ok (.slice (some ⟨g,0,none⟩) (n+m) c) w'∧n0≤g∧g<w'.heap.size∧(some g=V.ownBlock∨g=w.heap.size)∧n+m≤c∧c≤maxLen∧
  w'.heap[g]? =some (.cells cur e (0,0))∧cur.size=c*te.size∧cur.toList.take ((n+m)*te.size)=xs++zeros [z] m∧w.grownBy w' V.ownBlock∧(∀ρ,LR ρ te.zero [z]):=by
 obtain⟨info,hi1,hi2,hi3⟩:=hTe.info;obtain⟨info',desc,z,q1,q2,q3,q4,q5,q6,q7,_⟩:=hTe.ex;rw [hi1] at q1;injection q1 with q1
 subst q1;have hzl:z.cells.toList.length=1:=by rw [←(q7 (fun _=>none)).len,hTe.zlen,hsz]
 obtain⟨zv,hzv⟩:∃zv,z.cells=#[zv]:=by
  match hz:z.cells.toList,hzl with
  |[zv],_=>exact⟨zv,by apply Array.ext';rw [hz]⟩
 have hone:zv.oneCell'=true:=by
  have:=q7 (fun _=>none);rw [hzv] at this;exact LR.one' this zv (by simp)
 rw [hsz] at hown;obtain⟨v',w',r1,r2,r3,r5⟩:=ZsT (P:=P) w n0 ts tn ty e info z zv hd hdn hi1 q6 (hi2.trans hsz) (hi3.trans hby) hzv hone V n xs hown m hl0 hlim hn0;have hrep:List.replicate m zv=zeros [zv] m:=by
  clear r1 r2 r3 hlim hl0;induction m with
  |zero=>rfl
  |succ m ih=>rw [List.replicate_succ,zeros,ih];rfl
 rcases r2.2 with⟨e1,e2⟩|⟨g,c,cur,rfl,hbg,hg,hnc,hcm,hcs,htk⟩
 · omega
 · refine⟨g,c,cur,w',zv,r1,hbg,(Array.getElem?_eq_some_iff.1 hg).1,(by
    simp only [Value.ownBlock] at r5;rcases r5 with r5|r5
    · exact .inl r5
    · exact .inr (by simpa using r5)),hnc,hcm,hg,by rw [hsz];exact hcs,by rw [hsz,htk,hrep],r3,fun ρ=> ?_⟩
   have:=q7 ρ;rw [hzv] at this;exact this
theorem Zqi (hE:∀t ti,E.ty t=some ti→TyOk P t ti)(ht:TR ρ t a)(hI:IV n0 w0 ρ nx h w)(hf:fr<nx)(hn:ρ fr=none){c:Call} (hc:c.callee= .builtin .append)(ho:o.op= .call c){ts tx:Nat} {s x:Operand} (hts:c.argTypes.toList=[ts,tx])(hss:c.args.toList=[s,x])
 {h':Hp} (hh:ZhE E fr t h ts tx s x=some (v,h')):ZaH P n0 w0 ρ nx fr a o v h' w:=by
 unfold ZhE at hh;obtain⟨ti,h1,hh⟩:=Zb hh;obtain⟨tj,h1',hh⟩:=Zb hh;obtain⟨d,hd1,hd2⟩:=(hE _ _ h1).und;obtain⟨dn,hn1,hn2⟩:=(hE _ _ h1').und;split at hh
 case h_2=>cases hh
 rename_i e hk hk'
 rw [hk] at hd2;rw [hk'] at hn2;cases d<;>first|exact hd2.elim|skip
 cases dn<;>first|exact hn2.elim|skip
 have hd3:e=_:=hd2;subst hd3;have hn3:IntKind.i64=_:=hn2;subst hn3;obtain⟨te,h2,hh⟩:=Zb hh;have hTe:=hE _ _ h2;obtain⟨xv,h3,hh⟩:=Zb hh;split at hh
 case h_2=>cases hh
 rename_i m
 have hX:a.eval x= .int .i64 m:=Zj ht h3;split at hh
 case isFalse=>cases hh
 rename_i hlim
 have hats:c.argTypes=#[ts,tx]:=by apply Array.ext';simpa using hts
 have hargs:c.args.map a.eval=#[a.eval s,a.eval x]:=by apply Array.ext';simp [hss]
 have hexec:execOp a.eval o=(do let v←Builtin.append_ #[ts,tx] o.type #[a.eval s,a.eval x];pure (.value v)):=by
  unfold execOp;simp only [ho,resolve,hc,hargs,hats];rfl
 clear ho hc hts hss;split at hh
 · rename_i hs
   have hS:a.eval s= .slice none 0 0:=Zj ht hs;simp only [Option.some.injEq,Prod.mk.injEq] at hh;obtain⟨rfl,rfl⟩:=hh;obtain⟨g,c,cur,w',z,r1,r2,r3,r4,r5,r6,r7,r8,r9,r10,r11⟩:=ZjV (n0:=n0) hd1 hn1 hTe hlim.1 hlim.2.1 o.type (World.ownsRow_nil w n0 e te.size) (by omega:0+m≤100000) hlim.2.2.1 hI.size;rw [Nat.zero_add] at r1 r5 r9;have hle:=Rho.put_le (x:=(g,c)) hn;have hg:g=w.heap.size:=by
    rcases r4 with r4|r4
    · simp [Value.ownBlock] at r4
    · exact r4
   refine ZcR (ρ':=ρ.put fr (g,c)) (w':=w') hexec ⟨g,c,0,Rho.put_self,by omega,fun _=>rfl,rfl⟩ (by rw [hS,hX];exact r1)
    (hI.grow hf hn (fun y hy=>hy) r10.os r10.tape r10.output r10.size (b0:=g) r2 r2 r3 (fun k hk hkg _=>r10.block k hk (by simp [Value.ownBlock])) (fun y hy b c' hb=>by have:=(hI.rng _ _ _ hb).2;omega)
     ⟨zeros [z] m,cur.toList.drop (m*te.size),(0,0),?_,((r11 ρ).zeros m).mono (VR.mono hle),by simp,?_,fun j _ hj=>by omega,fun _=>rfl,fun _=>r6⟩) hle (fun j hj=>Rho.put_ne hj)
   · rw [r7];congr 2
     rw [List.nil_append] at r9;rw [←r9,List.take_append_drop]
   · rw [List.nil_append] at r9;rw [←r9,List.take_append_drop,Array.length_toList,r8]
 · rename_i j off len cut hs
   obtain⟨b,cc,o',hb,hcc,ho',hS⟩:AR ρ (.c (.sl j off len cut)) (a.eval s):=Zj ht hs;split at hh
   case h_2=>cases hh
   rename_i l e' z' k hlk
   split at hh
   case isFalse=>cases hh
   rename_i hcond
   simp only [Zeu,Option.some.injEq,Prod.mk.injEq] at hh;obtain⟨rfl,rfl⟩:=hh;obtain⟨k1,k2,k3,k4,k5,k6,k7⟩:=hcond;subst k2 k3 k6 k7;have heo:o'=0:=ho' (.inr rfl);subst heo;obtain⟨b4,c4,q1,m0,rest,fz,q2,q3,q4,q5,q6,q7,q8⟩:=hI.ob _ (Zbe hlk);simp only at q1;rw [q1] at hb;injection hb with hb
   injection hb with hb hb'
   subst hb hb';have hfz:=q7 k1;subst hfz;have hml0:m0.length=len*te.size:=by rw [←q3.len,k4]
   have hcm:c4≤maxLen:=by
    by_cases hk1:k=1
    · exact q8 hk1
    · have hr:=q4 (by omega);subst hr;rw [List.append_nil,hml0] at q5;have:c4=len:=(Nat.eq_of_mul_eq_mul_right (by omega) q5).symm;unfold maxLen;omega
   have hown:w.ownsRow n0 e' te.size (.slice (some ⟨b4,0,none⟩) len (c4 - 0)) len m0:=by
    refine⟨hml0,.inr ⟨b4,c4,(m0++rest).toArray,rfl,(hI.rng _ _ _ q1).1,q2,by omega,hcm,by simpa using q5,?_⟩⟩;rw [←hml0];simp
   obtain⟨g,c,cur,w',z,r1,r2,r3,r4,r5,r6,r7,r8,r9,r10,r11⟩:=ZjV (n0:=n0) hd1 hn1 hTe hlim.1 hlim.2.1 o.type hown k5 hlim.2.2.1 hI.size;have hob:Value.ownBlock (.slice (some ⟨b4,0,none⟩) len (c4 - 0))=some b4:=rfl;rw [hob] at r4 r10;have hle:=Rho.put_le (x:=(g,c)) hn;refine ZcR (ρ':=ρ.put fr (g,c)) (w':=w') hexec ⟨g,c,0,Rho.put_self,by omega,fun _=>rfl,rfl⟩ (by rw [hS,hX];exact r1)
    (hI.grow hf hn (fun y hy=>(Zeo hy).1) r10.os r10.tape r10.output r10.size (b0:=b4) (hI.rng _ _ _ q1).1 r2 r3 (fun k hk _ hk2=>r10.block k hk (by simpa using hk2)) ?_
     ⟨m0++zeros [z] m,cur.toList.drop ((len+m)*te.size),(0,0),?_,(q3.app ((r11 ρ).zeros m)).mono (VR.mono hle),by simp,?_,fun j _ hj=>by omega,fun _=>rfl,fun _=>r6⟩) hle (fun j hj=>Rho.put_ne hj)
   · intro y hy b' c' hb';obtain⟨y1,y2⟩:=Zeo hy;have hne:=hI.inj y y1 _ (Zbe hlk) y2 _ _ _ _ hb' q1;refine⟨?_,hne⟩;rcases r4 with r4|r4
     · injection r4 with r4;rw [r4];exact hne
     · have:=(hI.rng _ _ _ hb').2;omega
   · rw [r7];congr 2
     rw [←r9,List.take_append_drop]
   · rw [←r9,List.take_append_drop,Array.length_toList,r8]
 · cases hh
theorem Zqj (hE:∀t ti,E.ty t=some ti→TyOk P t ti)(hG:GOk E n0 w0)(ht:TR ρ t a)(hI:IV n0 w0 ρ nx h w)(hf:fr<nx)(hn:ρ fr=none){c:Call} (hc:c.callee= .builtin .append)(ho:o.op= .call c){h':Hp} (hh:eff E fr t h o.op=some (v,h')):
 ZaH P n0 w0 ρ nx fr a o v h' w:=by
 rw [ho] at hh;simp only [eff,Zf2,hc] at hh;split at hh
 case h_2=>cases hh
 rename_i ts tx s x hts hss
 split at hh
 case isFalse=>exact Zqi hE ht hI hf hn hc ho hts hss hh
 rename_i hte
 subst hte;obtain⟨ti,h1,hh⟩:=Zb hh;obtain⟨d,hd1,hd2⟩:=(hE _ _ h1).und;split at hh
 case h_2=>cases hh
 rename_i e hk
 rw [hk] at hd2;cases d<;>first|exact hd2.elim|skip
 have hd3:e=_:=hd2;subst hd3;obtain⟨te,h2,hh⟩:=Zb hh;have hTe:=hE _ _ h2;split at hh
 case isFalse=>cases hh
 rename_i hlim
 have hats:c.argTypes=#[ts,ts]:=by apply Array.ext';simpa using hts
 have hargs:c.args.map a.eval=#[a.eval s,a.eval x]:=by apply Array.ext';simp [hss]
 have hexec:execOp a.eval o=(do let v←Builtin.append_ #[ts,ts] o.type #[a.eval s,a.eval x];pure (.value v)):=by
  unfold execOp;simp only [ho,resolve,hc,hargs,hats];rfl
 clear ho hc hts hss;obtain⟨info,hi1,hi2,hi3⟩:=hTe.info;split at hh
 ·
   rename_i hs hx
   have hS:a.eval s= .slice none 0 0:=Zj ht hs;have hX:a.eval x= .slice none 0 0:=Zj ht hx;simp only [Option.some.injEq,Prod.mk.injEq] at hh;obtain⟨rfl,rfl⟩:=hh;refine Zce hexec rfl ?_ hI;simp [hS,hX,Builtin.append_,Zn hd1,sizeOf,ZcE hi1,Builtin.lenOf,Builtin.firstCells]
 · rename_i i off len cut hs hx
   obtain⟨b,cc,o',hb,hcc,ho',hS⟩:AR ρ (.c (.sl i off len cut)) (a.eval s):=Zj ht hs;have hX:a.eval x= .slice none 0 0:=Zj ht hx;simp only [Option.some.injEq,Prod.mk.injEq] at hh;obtain⟨rfl,rfl⟩:=hh;refine Zce (V:= .slice (some ⟨b,o',none⟩) len (cc - cut)) hexec ⟨b,cc,o',hb,hcc,ho',rfl⟩ ?_ hI;have:len≤cc - cut:=by omega
   simp [hS,hX,Builtin.append_,Zn hd1,sizeOf,ZcE hi1,Builtin.lenOf,Builtin.firstCells,this,storeCells]
 · rename_i i off len cut hs hx
   have hS:a.eval s= .slice none 0 0:=Zj ht hs;obtain⟨b,cc,o',hb,hcc,ho',hX⟩:AR ρ (.c (.sl i off len cut)) (a.eval x):=Zj ht hx;split at hh
   · rename_i hz
     subst hz;simp only [Option.some.injEq,Prod.mk.injEq] at hh;obtain⟨rfl,rfl⟩:=hh;refine Zce hexec rfl ?_ hI;simp [hS,hX,Builtin.append_,Zn hd1,sizeOf,ZcE hi1,Builtin.lenOf,Builtin.firstCells,loadCells,loadCellsFrom]
   · rename_i hz
     split at hh
     case isFalse=>cases hh
     rename_i hmax
     obtain⟨l,h3,hh⟩:=Zb hh;simp only [Option.some.injEq,Prod.mk.injEq] at hh;obtain⟨rfl,rfl⟩:=hh;have heo:o'=off:=ho' (.inl hz);subst heo;obtain⟨b2,o2,m,e2,hml,hl,hcell⟩:=ZdM (x:= .c (.p i o')) hG hI ⟨b,cc,hb,rfl⟩ h3;injection e2 with e2
     injection e2 with e2
     injection e2 with e2 e3
     subst e2 e3;obtain⟨g,c,cur,w',r1,r2,r3,r4,r5,r6,r7,r8,r9,r10⟩:=ZjU (n0:=n0) (c2:=cc - cut) hd1 hTe hlim.1 hlim.2 o.type (World.ownsRow_nil w n0 e te.size) hml hcell (LR.one' hl) (by omega) hz hI.size;rw [Nat.zero_add] at r1 r5 r9;have hg:g=w.heap.size:=by
      rcases r4 with r4|r4
      · simp [Value.ownBlock] at r4
      · exact r4
     have hle:=Rho.put_le (x:=(g,c)) hn;refine ZcR (ρ':=ρ.put fr (g,c)) (w':=w') hexec ⟨g,c,0,Rho.put_self,by omega,fun _=>rfl,rfl⟩ (by rw [hS,hX];exact r1)
      (hI.grow hf hn (fun y hy=>hy) r10.os r10.tape r10.output r10.size (b0:=g) r2 r2 r3 (fun k hk hkg _=>r10.block k hk (by simp [Value.ownBlock])) (fun y hy b c' hb=>by have:=(hI.rng _ _ _ hb).2;omega)
       ⟨m,cur.toList.drop (len*te.size),(0,0),?_,hl.mono (VR.mono hle),by simp,?_,fun j _ hj=>by omega,fun _=>rfl,fun _=>r6⟩) hle (fun j hj=>Rho.put_ne hj)
     · rw [r7];congr 2
       rw [List.nil_append] at r9;rw [←r9,List.take_append_drop]
     · rw [List.nil_append] at r9;rw [←r9,List.take_append_drop,Array.length_toList,r8]
 · rename_i j off len cut i o2 len2 Z6 hs hx
   obtain⟨b,cc,o',hb,hcc,ho',hS⟩:AR ρ (.c (.sl j off len cut)) (a.eval s):=Zj ht hs;obtain⟨b2,cc2,o2',hb2,hcc2,ho2',hX⟩:AR ρ (.c (.sl i o2 len2 Z6)) (a.eval x):=Zj ht hx;split at hh
   · rename_i hz
     subst hz;simp only [Option.some.injEq,Prod.mk.injEq] at hh;obtain⟨rfl,rfl⟩:=hh;refine Zce (V:= .slice (some ⟨b,o',none⟩) len (cc - cut)) hexec ⟨b,cc,o',hb,hcc,ho',rfl⟩ ?_ hI;have:len≤cc - cut:=by omega
     simp [hS,hX,Builtin.append_,Zn hd1,sizeOf,ZcE hi1,Builtin.lenOf,Builtin.firstCells,this,storeCells,loadCells,loadCellsFrom]
   · rename_i hz
     obtain⟨l2,h3,hh⟩:=Zb hh;split at hh
     case h_2=>cases hh
     rename_i l e' z k hlk
     split at hh
     case isFalse=>cases hh
     rename_i hcond
     simp only [Zeu,Option.some.injEq,Prod.mk.injEq] at hh;obtain⟨rfl,rfl⟩:=hh;obtain⟨k1,k2,k3,k4,k5,k6,k7⟩:=hcond;subst k2 k3 k6 k7;have heo:o2'=o2:=ho2' (.inl hz);subst heo;have heo:o'=0:=ho' (.inr rfl);subst heo;obtain⟨b3,o3,m2,e2,hml,hl2,hcell⟩:=ZdM (x:= .c (.p i o2')) hG hI ⟨b2,cc2,hb2,rfl⟩ h3;injection e2 with e2
     injection e2 with e2
     injection e2 with e2 e3
     subst e2 e3;obtain⟨b4,c4,q1,m,rest,fz,q2,q3,q4,q5,q6,q7,q8⟩:=hI.ob _ (Zbe hlk);simp only at q1;rw [q1] at hb;injection hb with hb
     injection hb with hb hb'
     subst hb hb';have hfz:=q7 k1;subst hfz;have hml0:m.length=len*te.size:=by rw [←q3.len,k4]
     have hcm:c4≤maxLen:=by
      by_cases hk1:k=1
      · exact q8 hk1
      · have hr:=q4 (by omega);subst hr;rw [List.append_nil,hml0] at q5;have:c4=len:=(Nat.eq_of_mul_eq_mul_right (Nat.pos_of_ne_zero hlim.2) q5).symm;unfold maxLen;omega
     have hown:w.ownsRow n0 e' te.size (.slice (some ⟨b4,0,none⟩) len (c4 - 0)) len m:=by
      refine⟨hml0,.inr ⟨b4,c4,(m++rest).toArray,rfl,(hI.rng _ _ _ q1).1,q2,by omega,hcm,by simpa using q5,?_⟩⟩;rw [←hml0];simp
     obtain⟨g,c,cur,w',r1,r2,r3,r4,r5,r6,r7,r8,r9,r10⟩:=ZjU (n0:=n0) (c2:=cc2 - Z6) hd1 hTe hlim.1 hlim.2 o.type hown hml hcell (LR.one' hl2) k5 hz hI.size;have hob:Value.ownBlock (.slice (some ⟨b4,0,none⟩) len (c4 - 0))=some b4:=rfl;rw [hob] at r4 r10;have hle:=Rho.put_le (x:=(g,c)) hn;refine ZcR (ρ':=ρ.put fr (g,c)) (w':=w') hexec ⟨g,c,0,Rho.put_self,by omega,fun _=>rfl,rfl⟩ (by rw [hS,hX];exact r1)
      (hI.grow hf hn (fun y hy=>(Zeo hy).1) r10.os r10.tape r10.output r10.size (b0:=b4) (hI.rng _ _ _ q1).1 r2 r3 (fun k hk _ hk2=>r10.block k hk (by simpa using hk2)) ?_
       ⟨m++m2,cur.toList.drop ((len+len2)*te.size),(0,0),?_,(q3.app hl2).mono (VR.mono hle),by simp,?_,fun j _ hj=>by omega,fun _=>rfl,fun _=>r6⟩) hle (fun j hj=>Rho.put_ne hj)
     · intro y hy b' c' hb';obtain⟨y1,y2⟩:=Zeo hy;have hne:=hI.inj y y1 _ (Zbe hlk) y2 _ _ _ _ hb' q1;refine⟨?_,hne⟩;rcases r4 with r4|r4
       · injection r4 with r4;rw [r4];exact hne
       · have:=(hI.rng _ _ _ hb').2;omega
     · rw [r7];congr 2
       rw [←r9,List.take_append_drop]
     · rw [←r9,List.take_append_drop,Array.length_toList,r8]
 · cases hh
end
end Ev
end Go.Proofs.YtecandjkbbpooaaGreatDoor
