/- Lemmas for a statement on the tops; conditions: as each says. -/
import Derived.Below
import Derived.Maps.AppendAt
import Derived.Test.YtecandjkbbpooaaGreatDoorM5
set_option linter.unusedVariables false
set_option linter.unusedSimpArgs false
set_option maxRecDepth 100000
set_option maxHeartbeats 200000
namespace Go.Proofs.YtecandjkbbpooaaGreatDoor
open Go
namespace Ev
section
variable {P:Program} {E:Env} {ρ:Rho} {t:List AV} {a:Act} {o:Oper} {v:AV}
theorem Zmv {α β:Type} (f:α→Sem β)(g:α→β):∀(l:List α) (w:World),(∀x∈l,∀w,(f x).run P w= .ok (g x) w)→(l.mapM f).run P w= .ok (l.map g) w
 |[],w,_=>by simp
 |x::l,w,h=>by
  rw [List.mapM_cons];simp [h x (by simp),Zmv f g l w (fun y hy=>h y (by simp [hy]))]
theorem Zs1 {α β:Type} (f:α→Sem β)(g:α→β)(l:Array α)(w:World)(h:∀x∈l,∀w,(f x).run P w= .ok (g x) w):(l.mapM f).run P w= .ok (l.map g) w:=by
 rw [Array.mapM_eq_mapM_toList];simp only [Sem.run_map,Zmv f g l.toList w (fun x hx=>h x (by simpa using hx)),Result.andThen_ok];congr 1
 apply Array.ext'
 simp
theorem run_build (hE:∀t ti,E.ty t=some ti→TyOk P t ti)(ht:TR ρ t a){ty:Nat} {ps:Array (Nat×Operand)} (h:pop E t (.build ty ps)=some v):
 ∃V,AR ρ v V∧∀w,(Instr.build ty (ps.map fun(i,x)=>(i,a.eval x))).run P w= .ok V w:=by
 simp only [pop,ZlJ] at h;obtain⟨ti,h1,h⟩:=Zb h;have hT:=hE _ _ h1;obtain⟨d,hd1,hd2⟩:=hT.und;obtain⟨z,hz1,hz2,hz3,hz4⟩:=hT.zero;split at h
 · rename_i fs hk
   rw [hk] at hd2;obtain⟨l,h2,h⟩:=Zb h;injection h with h;subst h
   cases d<;>first|exact hd2.elim|skip
   rename_i fields
   obtain⟨e1,e2⟩:=hd2;have hpl:places fs=fun i=>(fields.map fun f=>(f.offset,P.cellsOf f.type))[i]?:=by
    funext i
    rw [places,Zbq,e1];simp only [List.getElem?_map,Array.getElem?_map,Array.getElem?_toList];cases fields[i]? <;>rfl
   obtain⟨m',f1,f2⟩:=Zf7 ht h2 (hz2 ρ);refine⟨.agg m',⟨m'.toList,by simp,f2⟩,fun w=> ?_⟩;have hmap:∀w,(fields.mapM (fun f=>(do pure (f.offset,←sizeOf f.type):Sem (Nat×Nat)))).run P w= .ok (fields.map fun f=>(f.offset,P.cellsOf f.type)) w:=fun w=>
    Zs1 _ _ fields w (fun f hf w=>by
     have:=e2 f hf;cases hi:P.info? f.type with
     |none=>rw [hi] at this;cases this
     |some info=>simp [sizeOf,ZcE hi,Program.cellsOf,hi])
   rw [hpl] at f1;have hps:(ps.map fun(i,x)=>(i,a.eval x)).toList=ps.toList.map fun p=>(p.1,a.eval p.2):=by simp
   simp only [Instr.build,Sem.run_bind,hz1,Result.andThen_ok,Zn hd1,hmap,hps,f1];rfl
 · rename_i n e hk
   rw [hk] at hd2;obtain⟨te,h3,h⟩:=Zb h;have hTe:=hE _ _ h3;obtain⟨l,h2,h⟩:=Zb h;injection h with h;subst h
   cases d<;>first|exact hd2.elim|skip
   obtain⟨rfl,rfl⟩:=hd2;obtain⟨m',f1,f2⟩:=Zf7 ht h2 (hz2 ρ);refine⟨.agg m',⟨m'.toList,by simp,f2⟩,fun w=> ?_⟩;have hps:(ps.map fun(i,x)=>(i,a.eval x)).toList=ps.toList.map fun p=>(p.1,a.eval p.2):=by simp
   simp only [Instr.build,Sem.run_bind,hz1,Result.andThen_ok,Zn hd1,hTe.sizeOf,hps,f1];rfl
 · cases h
theorem Ze8 {x:Operand} {n:Nat} (ht:TR ρ t a)(h:evN t x=some n):∃k,a.eval x= .int k n:=by
 unfold evN at h;split at h
 · rename_i k n' h1
   injection h with h;subst h
   exact⟨k,Zj ht h1⟩
 · cases h
theorem ZhH {x:Operand} {b:Bool} (ht:TR ρ t a)(h:evB t x=some b):a.eval x= .bool b:=by
 unfold evB at h;split at h
 · rename_i h1
   injection h with h;subst h
   exact Zj ht h1
 · cases h
theorem Ztw (l:List UInt8)(n:Nat):(Bs l)[n]? =l[n]?:=by
 by_cases h:n<l.length
 · rw [getElem?_pos (Bs l) n (by simpa [Bs,ByteArray.size] using h),List.getElem?_eq_getElem h];rfl
 · rw [getElem?_neg (Bs l) n (by simpa [Bs,ByteArray.size] using h),List.getElem?_eq_none (by omega)]
theorem ZbM (l:List UInt8):(Bs l).size=l.length:=by simp [Bs,ByteArray.size]
theorem Zc9 (l:List UInt8):(Bs l).data.toList=l:=by simp [Bs]
theorem Bs_of (s:ByteArray):s=Bs s.data.toList:=by simp [Bs]
theorem Bs_ext (l:List UInt8)(a b:Nat):(Bs l).extract a b=Bs ((l.drop a).take (b - a)):=by
 rw [Bs_of ((Bs l).extract a b)];congr 1
 simp [Bs,List.extract_eq_take_drop]
theorem ZfD (l:List UInt8):(Bs l).toList=l:=by rw [ByteArray.toList_eq,Zc9]
theorem add_eq (b o n:Nat):(⟨b,o,none⟩:Addr).add n=⟨b,o+n,none⟩:=by unfold Addr.add;split<;>simp_all
theorem ZsZ (hE:∀t ti,E.ty t=some ti→TyOk P t ti)(ht:TR ρ t a){ty:Nat} {x i:Operand} (h:pop E t (.index ty x i)=some v):
 ∃V,AR ρ v V∧∀w,(Instr.index ty (a.eval x) (a.eval i)).run P w= .ok V w:=by
 simp only [pop,ZlO] at h;obtain⟨n,h0,h⟩:=Zb h;obtain⟨ti,h1,h⟩:=Zb h;obtain⟨k,hi⟩:=Ze8 ht h0;have hT:=hE _ _ h1;obtain⟨d,hd1,hd2⟩:=hT.und;split at h
 · rename_i l hk hx
   rw [hk] at hd2;cases d<;>first|exact hd2.elim|skip
   have hX:a.eval x= .string (Bs l):=Zj ht hx;obtain⟨u,h3,h⟩:=Zb h;injection h with h;subst h
   rw [Zbq] at h3;refine⟨.int .u8 u.toNat,rfl,fun w=> ?_⟩;simp [Instr.index,hi,hX,asIntOf,Zn hd1,Ztw,h3]
 · rename_i kk e l hk hx
   rw [hk] at hd2;cases d<;>first|exact hd2.elim|skip
   obtain⟨rfl,rfl⟩:=hd2;split at h
   · rename_i hlt
     obtain⟨te,h3,h⟩:=Zb h;have hTe:=hE _ _ h3;obtain⟨m,hX,hl⟩:AR ρ (.a l) (a.eval x):=Zj ht hx;obtain⟨V,hV,hp⟩:=Zgt hTe h hl;refine⟨V,hV,fun w=> ?_⟩;simp [Instr.index,hi,hX,asIntOf,Zn hd1,hlt,hTe.sizeOf,hp]
   · cases h
 · cases h
theorem Zs0 (hE:∀t ti,E.ty t=some ti→TyOk P t ti)(ht:TR ρ t a){ty:Nat} {x i:Operand} (h:pop E t (.indexAddr ty x i)=some v):
 ∃V,AR ρ v V∧∀w,(Instr.indexAt ty (a.eval x) (a.eval i)).run P w= .ok V w:=by
 simp only [pop,ZlP] at h;obtain⟨n,h0,h⟩:=Zb h;obtain⟨ti,h1,h⟩:=Zb h;obtain⟨k,hi⟩:=Ze8 ht h0;have hT:=hE _ _ h1;obtain⟨d,hd1,hd2⟩:=hT.und;split at h
 · rename_i kk e id off hk hx
   rw [hk] at hd2;cases d<;>first|exact hd2.elim|skip
   obtain⟨rfl,rfl⟩:=hd2;split at h
   · rename_i hlt
     obtain⟨te,h3,h⟩:=Zb h;have hTe:=hE _ _ h3;injection h with h;subst h
     obtain⟨b,c,hb,hX⟩:AR ρ (.c (.p id off)) (a.eval x):=Zj ht hx;refine⟨.pointer (some ⟨b,off+n*te.size,none⟩),⟨b,c,hb,rfl⟩,fun w=> ?_⟩;simp [Instr.indexAt,hi,hX,asIntOf,Zn hd1,hlt,hTe.sizeOf,Instr.sureAddr,add_eq]
   · cases h
 · rename_i kk e id off hk hx
   rw [hk] at hd2;cases d<;>first|exact hd2.elim|skip
   obtain⟨rfl,rfl⟩:=hd2;split at h
   · rename_i hlt
     obtain⟨te,h3,h⟩:=Zb h;have hTe:=hE _ _ h3;injection h with h;subst h
     have hX:a.eval x= .pointer (some ⟨id,off,none⟩):=Zj ht hx;refine⟨.pointer (some ⟨id,off+n*te.size,none⟩),rfl,fun w=> ?_⟩;simp [Instr.indexAt,hi,hX,asIntOf,Zn hd1,hlt,hTe.sizeOf,Instr.sureAddr,add_eq]
   · cases h
 · rename_i e id off len cut hk hx
   rw [hk] at hd2;cases d<;>first|exact hd2.elim|skip
   have hd3:e=_:=hd2;subst hd3;split at h
   · rename_i hlt
     obtain⟨te,h3,h⟩:=Zb h;have hTe:=hE _ _ h3;injection h with h;subst h
     obtain⟨b,c,o',hb,hc,ho,hX⟩:AR ρ (.c (.sl id off len cut)) (a.eval x):=Zj ht hx;have ho':o'=off:=ho (.inl (by omega));subst ho';refine⟨.pointer (some ⟨b,o'+n*te.size,none⟩),⟨b,c,hb,rfl⟩,fun w=> ?_⟩;simp [Instr.indexAt,hi,hX,asIntOf,Zn hd1,hlt,hTe.sizeOf,add_eq]
   · cases h
 · cases h
theorem ZsX (hE:∀t ti,E.ty t=some ti→TyOk P t ti)(ht:TR ρ t a){ty:Nat} {x:Operand} {f:Nat} (h:pop E t (.field ty x f)=some v):
 ∃V,AR ρ v V∧∀w,(Instr.field ty (a.eval x) f).run P w= .ok V w:=by
 simp only [pop,ZlM] at h;obtain⟨ti,h1,h⟩:=Zb h;have hT:=hE _ _ h1;obtain⟨d,hd1,hd2⟩:=hT.und;split at h
 · rename_i fs l hk hx
   rw [hk] at hd2;cases d<;>first|exact hd2.elim|skip
   rename_i fields
   obtain⟨e1,e2⟩:=hd2;obtain⟨fo,h2,h⟩:=Zb h;obtain⟨tf,h3,h⟩:=Zb h;have hTf:=hE _ _ h3;obtain⟨m,hX,hl⟩:AR ρ (.a l) (a.eval x):=Zj ht hx;rw [Zbq,e1,List.getElem?_map,Array.getElem?_toList] at h2;cases hf:fields[f]? with
   |none=>rw [hf] at h2;cases h2
   |some fl=>
    rw [hf] at h2;simp only [Option.map_some,Option.some.injEq] at h2;subst h2;obtain⟨V,hV,hp⟩:=Zgt hTf h hl;refine⟨V,hV,fun w=> ?_⟩;simp [Instr.field,hX,Zn hd1,hf,asAgg,hp]
 · cases h
theorem ZsY (hE:∀t ti,E.ty t=some ti→TyOk P t ti)(ht:TR ρ t a){ty:Nat} {x:Operand} {f:Nat} (h:pop E t (.fieldAddr ty x f)=some v):
 ∃V,AR ρ v V∧∀w,(Instr.fieldAt ty (a.eval x) f).run P w= .ok V w:=by
 simp only [pop,ZlN] at h;obtain⟨ti,h1,h⟩:=Zb h;have hT:=hE _ _ h1;obtain⟨d,hd1,hd2⟩:=hT.und;have key:∀(fields:Array Field) (fs:List (Nat×Nat×Nat)) (fo:Nat×Nat×Nat) (b off:Nat),fs=fields.toList.map (fun f=>(f.type,f.offset,P.cellsOf f.type))→(∀f∈fields,(P.info? f.type).isSome=true)→
  ZaK fs f=some fo→fo.2.2≠0→P.underlying ty=some (.struct fields)→∀w,(Instr.fieldAt ty (.pointer (some ⟨b,off,none⟩)) f).run P w= .ok (.pointer (some ⟨b,off+fo.2.1,none⟩)) w:=by
  intro fields fs fo b off e1 e2 h2 h3 hu w;rw [Zbq,e1,List.getElem?_map,Array.getElem?_toList] at h2;cases hf:fields[f]? with
  |none=>rw [hf] at h2;cases h2
  |some fl=>
   rw [hf] at h2;simp only [Option.map_some,Option.some.injEq] at h2;subst h2;have:=e2 fl (Array.mem_of_getElem? hf);cases hi:P.info? fl.type with
   |none=>rw [hi] at this;cases this
   |some info=>
    have hs:info.size≠0:=by simpa [Program.cellsOf,hi] using h3
    simp [Instr.fieldAt,Zn hu,hf,Instr.sureAddr,fieldPlace,sizeOf,ZcE hi,hs,add_eq]
 split at h
 · rename_i fs id off hk hx
   rw [hk] at hd2;cases d<;>first|exact hd2.elim|skip
   rename_i fields
   obtain⟨e1,e2⟩:=hd2;obtain⟨fo,h2,h⟩:=Zb h;split at h
   · cases h
   · rename_i hne
     injection h with h;subst h
     obtain⟨b,c,hb,hX⟩:AR ρ (.c (.p id off)) (a.eval x):=Zj ht hx;exact⟨_,⟨b,c,hb,rfl⟩,fun w=>by rw [hX];exact key fields fs fo b off e1 e2 h2 hne hd1 w⟩
 · rename_i fs id off hk hx
   rw [hk] at hd2;cases d<;>first|exact hd2.elim|skip
   rename_i fields
   obtain⟨e1,e2⟩:=hd2;obtain⟨fo,h2,h⟩:=Zb h;split at h
   · cases h
   · rename_i hne
     injection h with h;subst h
     have hX:a.eval x= .pointer (some ⟨id,off,none⟩):=Zj ht hx;exact⟨_,rfl,fun w=>by rw [hX];exact key fields fs fo id off e1 e2 h2 hne hd1 w⟩
 · cases h
end
end Ev
namespace Ev
def ZcL (P:Program)(t:Nat)(ti:TI):Prop:=∀(l m:List Cl) (L M:List Value) (ρ:Rho),shp ti.zero l=true→shp ti.zero m=true→LR ρ l L→LR ρ m M→
 (∀w,(Op.equal t (.agg L.toArray) (.agg M.toArray)).run P w= .ok (decide (l=m)) w)∧P.eqGuardType P.depth t=false
section
variable {P:Program} {E:Env} {ρ:Rho} {t:List AV} {a:Act} {o:Oper} {v:AV}
theorem ZkL {x:Option Operand} {d n:Nat} (ht:TR ρ t a)(h:evO t d x=some n):(x=none∧n=d)∨∃y k,x=some y∧a.eval y= .int k n:=by
 cases x with
 |none=>simp only [evO,Option.some.injEq] at h;exact .inl ⟨rfl,h.symm⟩
 |some y=>
  obtain⟨k,hk⟩:=Ze8 ht (show evN t y=some n from h);exact .inr ⟨y,k,rfl,hk⟩
theorem Zgz {k:IntKind} {n y:Nat} (code:BoundsCode)(h:n≤y)(w:World):(Instr.sliceBound (.int k n) y code).run P w= .ok n w:=by
 simp [Instr.sliceBound,asIntOf,h]
theorem ZgA {lo hi:Option Operand} {l h len cap:Nat} (isS:Bool)(ht:TR ρ t a)(h1:evO t 0 lo=some l)(h2:evO t len hi=some h)(h3:l≤h)(h4:h≤cap)(w:World):
 (Instr.sliceBounds isS len cap (lo.map a.eval) (hi.map a.eval) none).run P w= .ok (l,h,cap) w:=by
 rcases ZkL ht h1 with⟨rfl,rfl⟩|⟨y,k,rfl,hy⟩<;>rcases ZkL ht h2 with⟨rfl,rfl⟩|⟨z,k',rfl,hz⟩
 · simp [Instr.sliceBounds]
 · simp [Instr.sliceBounds,hz,Zgz _ h4]
 · simp [Instr.sliceBounds,hy,Zgz _ h3]
 · simp [Instr.sliceBounds,hy,hz,Zgz _ h3,Zgz _ h4]
theorem Zs2 (hE:∀t ti,E.ty t=some ti→TyOk P t ti)(ht:TR ρ t a){ty:Nat} {x:Operand} {lo hi mx:Option Operand} (h:pop E t (.slice ty x lo hi mx)=some v):
 ∃V,AR ρ v V∧∀w,(Instr.sliceAt ty (a.eval x) (lo.map a.eval) (hi.map a.eval) (mx.map a.eval)).run P w= .ok V w:=by
 cases mx with
 |some q=>simp [pop] at h
 |none=>
 simp only [pop,ZlS] at h;obtain⟨ti,h1,h⟩:=Zb h;have hT:=hE _ _ h1;obtain⟨d,hd1,hd2⟩:=hT.und;split at h
 · rename_i l hk hx
   rw [hk] at hd2;cases d<;>first|exact hd2.elim|skip
   have hX:a.eval x= .string (Bs l):=Zj ht hx;obtain⟨n,h2,h⟩:=Zb h;obtain⟨m,h3,h⟩:=Zb h;split at h
   · rename_i hc
     injection h with h;subst h
     refine⟨.string (Bs ((l.drop n).take (m - n))),rfl,fun w=> ?_⟩;have hb:=fun w=>ZgA (P:=P) (a:=a) (cap:=l.length) false ht h2 h3 hc.1 hc.2 w;simp [Instr.sliceAt,Instr.slice,hX,Zn hd1,ZbM,hb,Bs_ext]
   · cases h
 · rename_i e id off len cut hk hx
   rw [hk] at hd2;cases d<;>first|exact hd2.elim|skip
   have hd3:e=_:=hd2;subst hd3;obtain⟨b,c,o',hb,hc,ho,hX⟩:AR ρ (.c (.sl id off len cut)) (a.eval x):=Zj ht hx;obtain⟨n,h2,h⟩:=Zb h;obtain⟨m,h3,h⟩:=Zb h;split at h
   · rename_i hcd
     obtain⟨te,h4,h⟩:=Zb h;have hTe:=hE _ _ h4;injection h with h;subst h
     have hbd:=fun w=>ZgA (P:=P) (a:=a) (cap:=c - cut) true ht h2 h3 hcd.1 (by omega) w;obtain⟨C,hC⟩:∃C,c - cut=C:=⟨_,rfl⟩
     rw [hC] at hbd hX;by_cases hm:C=n
     · refine⟨.slice (some ⟨b,o',none⟩) (m - n) (C - n),⟨b,c,o',hb,by omega,fun hh=> ?_,by congr 1;omega⟩,fun w=> ?_⟩
       · have:m=n:=by omega
         rcases hh with hh|hh
         · omega
         · have:cut=0:=by omega
           have:n=0:=by omega
           subst this;rw [Nat.zero_mul,Nat.add_zero];exact ho (.inr ‹_›)
       · simp only [Instr.sliceAt,Instr.slice,hX,Zn hd1,hbd,hTe.sizeOf,Sem.run_bind,Result.andThen_ok,Option.map_none,if_pos hm,Sem.run_pure]
     · refine⟨.slice (some ⟨b,o'+n*te.size,none⟩) (m - n) (C - n),⟨b,c,o'+n*te.size,hb,by omega,fun hh=> ?_,by congr 1;omega⟩,fun w=> ?_⟩
       · have:o'=off:=ho (by omega);rw [this]
       · simp only [Instr.sliceAt,Instr.slice,hX,Zn hd1,hbd,hTe.sizeOf,Sem.run_bind,Result.andThen_ok,Option.map_none,Option.map_some,if_neg hm,Sem.run_pure,add_eq]
   · cases h
 · rename_i e hk hx
   rw [hk] at hd2;cases d<;>first|exact hd2.elim|skip
   have hd3:e=_:=hd2;subst hd3;have hX:a.eval x= .slice none 0 0:=Zj ht hx;obtain⟨te,h4,h⟩:=Zb h;have hTe:=hE _ _ h4;obtain⟨n,h2,h⟩:=Zb h;obtain⟨m,h3,h⟩:=Zb h;split at h
   · rename_i hcd
     simp only [Option.some.injEq] at h;subst h;obtain⟨rfl,rfl⟩:=hcd;have hbd:=fun w=>ZgA (P:=P) (a:=a) (cap:=0) true ht h2 h3 (Nat.le_refl _) (Nat.le_refl _) w;refine⟨.slice none 0 0,rfl,fun w=> ?_⟩;simp [Instr.sliceAt,Instr.slice,hX,Zn hd1,hbd,hTe.sizeOf]
   · cases h
 · cases h
end
end Ev
namespace Ev
section
variable {P:Program} {E:Env} {ρ:Rho} {t:List AV} {a:Act} {o:Oper} {v:AV}
theorem Zit (op:BinOp)(ty:Nat)(x y:Operand){A B:Value} (h1:∀cs,A≠ .agg cs)(h2:A≠ .nilIface)(w:World):(eqGuard op ty x y A B).run P w= .ok () w:=by
 cases A<;>first|exact absurd rfl (h1 _)|exact absurd rfl h2|(cases op<;>simp [eqGuard])
theorem Zrp {op:BinOp} {k:IntKind} {x y:Int} {z:Cl} (h:ZhS op k x y=some z)(ty:Nat):∃V,VR ρ z V∧∀w,(binOp op ty (.int k x) (.int k y)).run P w= .ok V w:=by
 cases op<;>simp only [ZhS] at h<;>first
  |(injection h with h;subst h;exact⟨_,rfl,fun w=>by simp [binOp,Op.intArith,Op.intBits,Op.intCmp,ZeM]⟩)
  |(split at h<;>first|(cases h;done)|(rename_i hz;injection h with h;subst h;exact⟨_,rfl,fun w=>by simp [binOp,Op.intDiv,hz,ZeM]⟩))
  |cases h
theorem ZmI {op:BinOp} {k k':IntKind} {x y:Int} {z:Cl} (h:shOp op k x y=some z)(ty:Nat):∃V,VR ρ z V∧∀w,(binOp op ty (.int k x) (.int k' y)).run P w= .ok V w:=by
 unfold shOp at h;split at h
 · cases h
 · rename_i hy
   cases op<;>simp only at h<;>first
    |(injection h with h;subst h;exact⟨_,rfl,fun w=>by simp [binOp,Op.shift,hy,ZeM,ZsC]⟩)
    |cases h
theorem Ztv {op:BinOp} {x y:List UInt8} {z:Cl} (h:ZiC op x y=some z)(ty:Nat):∃V,VR ρ z V∧∀w,(binOp op ty (.string (Bs x)) (.string (Bs y))).run P w= .ok V w:=by
 cases op
 case add=>
  simp only [ZiC] at h;split at h
  · injection h with h;subst h
    refine⟨_,rfl,fun w=> ?_⟩;have h2:¬(((Bs x).size+(Bs y).size:Nat):Int)>IntKind.i64.max:=by
     rw [ZbM,ZbM];have:IntKind.i64.max=9223372036854775807:=by decide
     omega
    simp only [binOp,Op.stringOp,if_neg h2,Sem.run_pure];congr 2
  · cases h
 case eql=>injection h with h;subst h;exact⟨_,rfl,fun w=>by simp [binOp,Op.stringOp,ZfD]⟩
 case neq=>injection h with h;subst h;exact⟨_,rfl,fun w=>by simp [binOp,Op.stringOp,ZfD]⟩
 all_goals cases h
theorem ZrQ {ty:Nat} {ti:TI} (hT:TyOk P ty ti){x y:Cl} {X Y:Value} {b:Bool} (h:ZdV ti.k x y=some b)(hx:VR ρ x X)(hy:VR ρ y Y)(w:World)(dd:Nat):(Op.equalIn (dd+1) ty X Y).run P w= .ok b w∧X≠ .nilIface:=by
 obtain⟨d,hd1,hd2⟩:=hT.und;generalize ti.k=K at*;unfold ZdV at h;split at h<;>first|(cases h;done)|skip
 all_goals
  injection h with h
  subst h;cases d<;>first|exact hd2.elim|skip
 · simp only [VR] at hx hy;subst hx hy;exact⟨by simp [Op.equalIn,Zn hd1],by simp⟩
 · simp only [VR] at hx hy;subst hx hy;exact⟨by simp [Op.equalIn,Zn hd1],by simp⟩
 · obtain⟨b',c,h1,rfl⟩:=hy;simp only [VR] at hx;subst hx;exact⟨by simp [Op.equalIn,Zn hd1],by simp⟩
 · obtain⟨b',c,h1,rfl⟩:=hx;simp only [VR] at hy;subst hy;exact⟨by simp [Op.equalIn,Zn hd1],by simp⟩
 · simp only [VR] at hx hy;subst hx hy;exact⟨by simp [Op.equalIn,Zn hd1],by simp⟩
 · obtain⟨b',c,o',h1,h2,h3,rfl⟩:=hy;simp only [VR] at hx;subst hx;exact⟨by simp [Op.equalIn,Zn hd1],by simp⟩
 · obtain⟨b',c,o',h1,h2,h3,rfl⟩:=hx;simp only [VR] at hy;subst hy;exact⟨by simp [Op.equalIn,Zn hd1],by simp⟩
 · simp only [VR] at hx hy;subst hx hy;exact⟨by simp [Op.equalIn,Zn hd1],by simp⟩
 · obtain⟨m,n,rfl,_⟩:=hy;simp only [VR] at hx;subst hx;exact⟨by simp [Op.equalIn,Zn hd1],by simp⟩
 · obtain⟨m,n,rfl,_⟩:=hx;simp only [VR] at hy;subst hy;exact⟨by simp [Op.equalIn,Zn hd1],by simp⟩
theorem Zh4 {ty:Nat} {ti:TI} (hT:TyOk P ty ti){x y:Cl} {X Y:Value} {b:Bool} (h:ZdV ti.k x y=some b)(hx:VR ρ x X)(hy:VR ρ y Y)(w:World):(Op.equal ty X Y).run P w= .ok b w∧X≠ .nilIface:=by
 have hd:∀d:Nat,(Op.equalIn (d+1) ty X Y).run P w= .ok b w∧X≠ .nilIface:=by
  intro dd;exact ZrQ hT h hx hy w dd
 exact hd 9999
theorem ZrR {K:TK} {c d:Cl} {b:Bool} (h:ZdV K c d=some b):(∀k n,c≠ .i k n)∧(∀l,c≠ .s l):=by
 constructor
 · rintro k n rfl;cases K<;>simp [ZdV] at h
 · rintro l rfl;cases K<;>simp [ZdV] at h
theorem ZkW {op:BinOp} {b:Option Bool} (h:Zgb op b=some v):∃y,b=some y∧((op= .eql∧v= .c (.b y))∨(op= .neq∧v= .c (.b !y))):=by
 unfold Zgb at h;split at h<;>first|(cases h;done)|(injection h with h;exact⟨_,rfl,by simp [h.symm]⟩)
theorem Zj5 {ty:Nat} {X Y:Value} (hx:(∃cs,X= .agg cs)∨∃x,VR ρ x X∧(∀k n,x≠ .i k n)∧∀l,x≠ .s l):
 binOp .eql ty X Y=(do pure (.bool (←Op.equal ty X Y)))∧binOp .neq ty X Y=(do pure (.bool (!(←Op.equal ty X Y)))):=by
 have key:∀X,((∃cs,X=Value.agg cs)∨∃x,VR ρ x X∧(∀k n,x≠ .i k n)∧∀l,x≠ .s l)→(∀k n,X≠ .int k n)∧(∀k n,X≠ .float k n)∧(∀k n m,X≠ .complex k n m)∧∀s,X≠ .string s:=by
  intro X h;rcases h with⟨cs,rfl⟩|⟨x,hx,h1,h2⟩
  · simp
  · cases x<;>simp only [VR] at hx<;>first
     |(subst hx;simp;done)
     |(exact absurd rfl (h1 _ _))
     |(exact absurd rfl (h2 _))
     |(obtain⟨b,c,_,rfl⟩:=hx;simp;done)
     |(obtain⟨b,c,o,_,_,_,rfl⟩:=hx;simp;done)
     |(obtain⟨m,n,rfl,_⟩:=hx;simp;done)
 obtain⟨a1,a2,a3,a4⟩:=key X hx;cases X<;>first
  |exact absurd rfl (a1 _ _)
  |exact absurd rfl (a2 _ _)
  |exact absurd rfl (a3 _ _ _)
  |exact absurd rfl (a4 _)
  |exact⟨rfl,rfl⟩
  |(cases Y<;>exact⟨rfl,rfl⟩)
theorem ZsV (hE:∀t ti,E.ty t=some ti→TyOk P t ti)(hq:∀t ti,E.eqt t=true→E.ty t=some ti→ZcL P t ti){op:BinOp} {ty:Nat} {x y:Operand} {X Y:Value} {u u2:AV} (hx:AR ρ u X)(hy:AR ρ u2 Y)(h:binV E op ty u u2=some v):
 ∃V,AR ρ v V∧∀w,(do eqGuard op ty x y X Y;binOp op ty X Y).run P w= .ok V w:=by
 unfold binV at h;split at h
 · rename_i k n k' n'
   have e1:X= .int k n:=hx;have e2:Y= .int k' n':=hy;subst e1 e2;have hg:=fun w=>Zit (P:=P) op ty x y (A:= .int k n) (B:= .int k' n') (by simp) (by simp) w;have fin:∀(z:Cl),(∃V,VR ρ z V∧∀w,(binOp op ty (.int k n) (.int k' n')).run P w= .ok V w)→∃V,AR ρ (.c z) V∧∀w,(do eqGuard op ty x y (.int k n) (.int k' n');binOp op ty (.int k n) (.int k' n')).run P w= .ok V w:=by
    rintro z ⟨V,hV,hr⟩;exact⟨V,hV,fun w=>by simp only [Sem.run_bind,hg,Result.andThen_ok,hr]⟩
   split at h
   · obtain⟨z,hz,h⟩:=Zb h;injection h with h;subst h
     exact fin z (ZmI hz ty)
   · obtain⟨z,hz,h⟩:=Zb h;injection h with h;subst h
     exact fin z (ZmI hz ty)
   · split at h
     · rename_i hk
       subst hk;obtain⟨z,hz,h⟩:=Zb h;injection h with h;subst h
       exact fin z (Zrp hz ty)
     · cases h
 · rename_i l m
   have e1:X= .string (Bs l):=hx;have e2:Y= .string (Bs m):=hy;subst e1 e2;obtain⟨z,hz,h⟩:=Zb h;injection h with h;subst h
   obtain⟨V,hV,hr⟩:=Ztv (P:=P) (ρ:=ρ) hz ty;exact⟨V,hV,fun w=>by simp only [Sem.run_bind,Zit (P:=P) op ty x y (A:= .string (Bs l)) (B:= .string (Bs m)) (by simp) (by simp) w,Result.andThen_ok,hr]⟩
 · rename_i c d _ _
   obtain⟨ti,h3,h⟩:=Zb h;have hT:=hE _ _ h3;obtain⟨b,hb,h⟩:=ZkW h;have hx':VR ρ c X:=hx;have hy':VR ρ d Y:=hy;have hni:=(Zh4 hT hb hx' hy' default).2;have hnc:=ZrR hb;obtain⟨be,bn⟩:=Zj5 (ρ:=ρ) (ty:=ty) (X:=X) (Y:=Y) (.inr ⟨c,hx',hnc.1,hnc.2⟩);have hg:=fun w=>Zit (P:=P) op ty x y (A:=X) (B:=Y) (VR.one hx').2.2.1 hni w;rcases h with⟨rfl,rfl⟩|⟨rfl,rfl⟩
   · exact⟨.bool b,rfl,fun w=>by simp only [Sem.run_bind,hg,Result.andThen_ok,be,(Zh4 hT hb hx' hy' w).1,Sem.run_pure]⟩
   · exact⟨.bool !b,rfl,fun w=>by simp only [Sem.run_bind,hg,Result.andThen_ok,bn,(Zh4 hT hb hx' hy' w).1,Sem.run_pure]⟩
 · rename_i l m
   obtain⟨ti,h3,h⟩:=Zb h;split at h
   · rename_i hc
     simp only [Bool.and_eq_true] at hc;obtain⟨b,hb,h⟩:=ZkW h;injection hb with hb
     subst hb;obtain⟨L,rfl,hl⟩:=hx;obtain⟨M,rfl,hm⟩:=hy;obtain⟨he,hgd⟩:=hq _ _ hc.1.1 h3 l m L M ρ hc.1.2 hc.2 hl hm;obtain⟨be,bn⟩:=Zj5 (ρ:=ρ) (ty:=ty) (X:= .agg L.toArray) (Y:= .agg M.toArray) (.inl ⟨_,rfl⟩);have hg:∀w,(eqGuard op ty x y (.agg L.toArray) (.agg M.toArray)).run P w= .ok () w:=fun w=>by
      unfold eqGuard;rcases h with⟨rfl,rfl⟩|⟨rfl,rfl⟩<;>simp [hgd]
     rcases h with⟨rfl,rfl⟩|⟨rfl,rfl⟩
     · exact⟨.bool (decide (l=m)),rfl,fun w=>by simp only [Sem.run_bind,hg,Result.andThen_ok,be,he,Sem.run_pure]⟩
     · exact⟨.bool !(decide (l=m)),rfl,fun w=>by simp only [Sem.run_bind,hg,Result.andThen_ok,bn,he,Sem.run_pure]⟩
   · cases h
 · cases h
theorem ZsU (hE:∀t ti,E.ty t=some ti→TyOk P t ti)(hq:∀t ti,E.eqt t=true→E.ty t=some ti→ZcL P t ti)(ht:TR ρ t a){op:BinOp} {ty ty2:Nat} {x y:Operand} (h:pop E t (.binOp op ty x y ty2)=some v):
 ∃V,AR ρ v V∧∀w,(do eqGuard op ty x y (a.eval x) (a.eval y);binOp op ty (a.eval x) (a.eval y)).run P w= .ok V w:=by
 simp only [pop] at h;obtain⟨u,h1,h⟩:=Zb h;obtain⟨u2,h2,h⟩:=Zb h;exact ZsV hE hq (Zj ht h1) (Zj ht h2) h
end
end Ev
namespace Ev
section
variable {P:Program} {E:Env} {ρ:Rho} {t:List AV} {a:Act} {o:Oper} {v:AV}
theorem run_un {op:UnOp} {u:AV} {X:Value} (hx:AR ρ u X)(h:unV op u=some v):∃V,AR ρ v V∧∀w,(Op.unary op X).run P w= .ok V w:=by
 unfold unV at h;split at h
 · rename_i b
   have e:X= .bool b:=hx;subst e;split at h
   · injection h with h;subst h
     exact⟨_,rfl,fun w=>by simp [Op.unary]⟩
   · cases h
 · rename_i k n
   have e:X= .int k n:=hx;subst e;split at h
   · injection h with h;subst h
     exact⟨_,rfl,fun w=>by simp [Op.unary,Op.intArith,ZeM]⟩
   · injection h with h;subst h
     exact⟨_,rfl,fun w=>by simp [Op.unary,Op.intBits,ZeM]⟩
   · cases h
 · cases h
theorem Zij {ρ:Rho} (ht:TR ρ t a):∀{l:List Operand} {m:List (Nat×Nat)},ZcC (l.map (ev t))=some m→PW (PtR ρ) m (l.map a.eval)
 |[],m,h=>by simp only [List.map_nil,ZcC,Option.some.injEq] at h;subst h;trivial
 |x::l,m,h=>by
  simp only [List.map_cons] at h;cases hx:ev t x with
  |none=>rw [hx] at h;simp [ZcC] at h
  |some u=>
   rw [hx] at h;cases u with
   |a _=>simp [ZcC] at h
   |t _=>simp [ZcC] at h
   |c c=>
    cases c<;>first|(simp [ZcC] at h;done)|skip
    rename_i id off
    simp only [ZcC] at h;obtain⟨r,h1,h⟩:=Zb h;injection h with h;subst h
    exact⟨Zj ht hx,Zij ht h1⟩
theorem ZsW (hE:∀t ti,E.ty t=some ti→TyOk P t ti)(ht:TR ρ t a){s d:Nat} {x:Operand} (h:pop E t (.convert s d x)=some v):
 ∃V,AR ρ v V∧∀w,(convert s d (a.eval x)).run P w= .ok V w:=by
 simp only [pop,ZlK] at h;obtain⟨ts,h1,h⟩:=Zb h;obtain⟨td,h2,h⟩:=Zb h;obtain⟨ds,hs1,hs2⟩:=(hE _ _ h1).und;obtain⟨dd,hd1,hd2⟩:=(hE _ _ h2).und;split at h
 · rename_i k k' k'' n e1 e2 hx
   rw [e1] at hs2;rw [e2] at hd2;have hX:a.eval x= .int k'' n:=Zj ht hx;cases ds<;>first|exact hs2.elim|skip
   cases dd<;>first|exact hd2.elim|skip
   have:k'=_:=hd2;subst this;injection h with h;subst h
   exact⟨_,rfl,fun w=>by simp [convert,Zn hs1,Zn hd1,hX,Conv.intToInt,ZeM]⟩
 · rename_i l e1 e2 hx
   rw [e1] at hs2;rw [e2] at hd2;have hX:a.eval x= .string (Bs l):=Zj ht hx;cases ds<;>first|exact hs2.elim|skip
   cases dd<;>first|exact hd2.elim|skip
   injection h with h;subst h
   exact⟨_,rfl,fun w=>by simp [convert,Zn hs1,Zn hd1,hX]⟩
 · rename_i k k'' n e1 e2 hx
   rw [e1] at hs2;rw [e2] at hd2;have hX:a.eval x= .int k'' n:=Zj ht hx;cases ds<;>first|exact hs2.elim|skip
   cases dd<;>first|exact hd2.elim|skip
   injection h with h;subst h
   exact⟨_,rfl,fun w=>by simp [convert,Zn hs1,Zn hd1,hX,Conv.intToString,←Bs_of]⟩
 · cases h
theorem Zis (b:Builtin)(c:Call)(hc:c.callee= .builtin b)(ho:o.op= .call c){s:Sem Value} (hs:∀consts,builtin b c.argTypes o.type consts (c.args.map a.eval)=(do let v←s;pure (.value v))){V:Value} (hV:AR ρ v V)(hr:∀w,s.run P w= .ok V w):Yld P ρ a o v:=by
 refine ZcI (s:=s) ?_ hV hr;unfold execOp;simp only [ho,resolve,hc];exact hs _
theorem Zl4 (hE:∀t ti,E.ty t=some ti→TyOk P t ti)(hq:∀t ti,E.eqt t=true→E.ty t=some ti→ZcL P t ti)(ht:TR ρ t a)(h:pop E t o.op=some v):Yld P ρ a o v:=by
 cases ho:o.op with
 |move x=>
  rw [ho] at h;exact⟨_,Zj ht h,fun w=>by simp [execOp,ho]⟩
 |assign x=>
  rw [ho] at h;exact⟨_,Zj ht h,fun w=>by simp [execOp,ho]⟩
 |pick c x y=>
  rw [ho] at h;simp only [pop,pPick] at h;obtain⟨b,h1,h⟩:=Zb h;have hb:=ZhH ht h1;cases b
  · exact⟨a.eval y,Zj ht h,fun w=>by simp [execOp,ho,hb,asBool]⟩
  · exact⟨a.eval x,Zj ht h,fun w=>by simp [execOp,ho,hb,asBool]⟩
 |build ty ps=>
  rw [ho] at h;obtain⟨V,hV,hr⟩:=run_build hE ht h;exact ZcI (by unfold execOp;simp only [ho]) hV hr
 |nilCheck x=>
  rw [ho] at h;simp only [pop,ZlR] at h;split at h
  · rename_i i off hx
    injection h with h;subst h
    have hX:=Zj ht hx;obtain⟨b,c,h1,h2⟩:=hX;exact⟨_,⟨b,c,h1,rfl⟩,fun w=>by simp [execOp,ho,h2]⟩
  · rename_i i off hx
    injection h with h;subst h
    have hX:a.eval x= .pointer (some ⟨i,off,none⟩):=Zj ht hx;exact⟨_,rfl,fun w=>by simp [execOp,ho,hX]⟩
  · rename_i f fs cs hx
    injection h with h;subst h
    obtain⟨m,n,h1,h2,h3⟩:=Zj ht hx;exact⟨_,⟨m,n,rfl,h2,h3⟩,fun w=>by simp [execOp,ho,h1]⟩
  · cases h
 |extract x i=>
  rw [ho] at h;simp only [pop,ZlL] at h;split at h
  · rename_i l hx
    obtain⟨u,h1,h⟩:=Zb h;injection h with h;subst h
    obtain⟨m,hX,hl⟩:=Zj ht hx;rw [Zbq] at h1;obtain⟨y,hy,hr⟩:=hl.get h1;exact⟨y,hr.av,fun w=>by simp [execOp,ho,hX,Instr.extract,hy]⟩
  · cases h
 |field ty x f=>
  rw [ho] at h;obtain⟨V,hV,hr⟩:=ZsX hE ht h;exact ZcI (by unfold execOp;simp only [ho]) hV hr
 |fieldAddr ty x f=>
  rw [ho] at h;obtain⟨V,hV,hr⟩:=ZsY hE ht h;exact ZcI (by unfold execOp;simp only [ho]) hV hr
 |index ty x i=>
  rw [ho] at h;obtain⟨V,hV,hr⟩:=ZsZ hE ht h;exact ZcI (by unfold execOp;simp only [ho]) hV hr
 |indexAddr ty x i=>
  rw [ho] at h;obtain⟨V,hV,hr⟩:=Zs0 hE ht h;exact ZcI (by unfold execOp;simp only [ho]) hV hr
 |slice ty x lo hi mx=>
  rw [ho] at h;obtain⟨V,hV,hr⟩:=Zs2 hE ht h;exact ZcI (by unfold execOp;simp only [ho]) hV hr
 |binOp op ty x y ty2=>
  rw [ho] at h;obtain⟨V,hV,hr⟩:=ZsU hE hq ht h;exact ZcI (by unfold execOp;simp only [ho]) hV hr
 |unOp op ty x=>
  rw [ho] at h;simp only [pop] at h;obtain⟨u,h1,h⟩:=Zb h;obtain⟨V,hV,hr⟩:=run_un (P:=P) (Zj ht h1) h;exact ZcI (by unfold execOp;simp only [ho]) hV hr
 |convert s d x=>
  rw [ho] at h;obtain⟨V,hV,hr⟩:=ZsW hE ht h;exact ZcI (by unfold execOp;simp only [ho]) hV hr
 |makeFunc fn fs cs=>
  rw [ho] at h;cases fn with
  |func f=>
   simp only [pop,ZlQ] at h;obtain⟨l,h1,h⟩:=Zb h;obtain⟨m,h2,h⟩:=Zb h;injection h with h;subst h
   exact⟨.func (.func f) (fs.map a.eval) (cs.map a.eval),⟨fs.toList.map a.eval,cs.toList.map a.eval,by congr 1<;>(apply Array.ext';simp),Zij ht h1,Zij ht h2⟩,fun w=>by simp [execOp,ho,Instr.makeFunc]⟩
  |_=>simp [pop] at h
 |call c=>
  rw [ho] at h;simp only [pop,pCall] at h;split at h
  · rename_i hc
    obtain⟨ty,h1,h⟩:=Zb h;obtain⟨ti,h2,h⟩:=Zb h;obtain⟨x,h3,h⟩:=Zb h;obtain⟨d,hd1,hd2⟩:=(hE _ _ h2).und;rw [Zbq] at h1 h3;have h1':c.argTypes[0]? =some ty:=by simpa using h1
    have h3':c.args[0]? =some x:=by simpa using h3
    have key:∃V,AR ρ v V∧∀w,(Builtin.len_ c.argTypes o.type (c.args.map a.eval)).run P w= .ok V w:=by
     split at h
     · rename_i l hk hx
       rw [hk] at hd2;cases d<;>first|exact hd2.elim|skip
       have hX:a.eval x= .string (Bs l):=Zj ht hx;injection h with h;subst h
       exact⟨_,rfl,fun w=>by simp [Builtin.len_,h1',h3',Zn hd1,hX,goInt,ZbM]⟩
     · rename_i n e u hk hx
       rw [hk] at hd2;cases d<;>first|exact hd2.elim|skip
       obtain⟨rfl,rfl⟩:=hd2;injection h with h;subst h
       exact⟨_,rfl,fun w=>by simp [Builtin.len_,h1',h3',Zn hd1,goInt]⟩
     · rename_i e hk hx
       rw [hk] at hd2;cases d<;>first|exact hd2.elim|skip
       have hX:a.eval x= .slice none 0 0:=Zj ht hx;injection h with h;subst h
       exact⟨_,rfl,fun w=>by simp [Builtin.len_,h1',h3',Zn hd1,hX,goInt]⟩
     · rename_i e id off len cut hk hx
       rw [hk] at hd2;cases d<;>first|exact hd2.elim|skip
       obtain⟨b,c',o',hb,hc',ho',hX⟩:AR ρ (.c (.sl id off len cut)) (a.eval x):=Zj ht hx;injection h with h;subst h
       exact⟨_,rfl,fun w=>by simp [Builtin.len_,h1',h3',Zn hd1,hX,goInt]⟩
     · cases h
    obtain⟨V,hV,hr⟩:=key;exact Zis .len c hc ho (fun _=>rfl) hV hr
  · rename_i hc
    split at h
    · rename_i x y hl
      split at h
      · rename_i k m k' n hx hy
        injection h with h;subst h
        have hX:a.eval x= .int k m:=Zj ht hx;have hY:a.eval y= .int k' n:=Zj ht hy;refine Zis .min c hc ho (s:=Builtin.min_ c.argTypes o.type (c.args.map a.eval)) (fun _=>rfl) rfl (fun w=> ?_);simp [Builtin.min_,hl,hX,hY,Builtin.min2]
      · cases h
    · cases h
  · rename_i hc
    split at h
    · rename_i x y hl
      split at h
      · rename_i k m k' n hx hy
        injection h with h;subst h
        have hX:a.eval x= .int k m:=Zj ht hx;have hY:a.eval y= .int k' n:=Zj ht hy;refine Zis .max c hc ho (s:=Builtin.max_ c.argTypes o.type (c.args.map a.eval)) (fun _=>rfl) rfl (fun w=> ?_);simp [Builtin.max_,hl,hX,hY,Builtin.max2]
      · cases h
    · cases h
  · cases h
 |_=>rw [ho] at h;simp [pop] at h
end
end Ev
end Go.Proofs.YtecandjkbbpooaaGreatDoor
namespace Go.Proofs.YtecandjkbbpooaaGreatDoor
open Go Go.RowKit
namespace Ev
def MR (ρ:Rho)(e:A0×A0)(m:MapEntry):Prop:=A0R ρ e.1 m.key∧A0R ρ e.2 m.val
def ObR (ρ:Rho)(w:World)(b c:Nat):Ob→Prop
 | .cl l ty sz row=>∃(m rest:List Value) (fr:Nat×Nat),w.heap[b]? =some (.cells (m++rest).toArray ty fr)∧LR ρ l m∧(row=0→rest=[])∧(m++rest).length=c*sz∧(∀j,j<(m++rest).length→¬(fr.1≤j∧j<fr.2))∧(row≤1→fr=(0,0))∧(row=1→c≤maxLen)
 | .it s pos=>w.heap[b]? =some (.stringIter (Bs s) pos)
 | .mp es=>∃(L:List MapEntry) (ck:Nat),w.heap[b]? =some (.map L.toArray ck)∧PW (MR ρ) es L
theorem MR.mono {ρ σ:Rho} (h:ρ.le σ)(e:A0×A0)(m:MapEntry)(hm:MR ρ e m):MR σ e m:=⟨A0R.mono h _ _ hm.1,A0R.mono h _ _ hm.2⟩
theorem ObR.mono {ρ σ:Rho} {w w':World} {b c:Nat} (h:ρ.le σ)(hw:w'.heap[b]? =w.heap[b]?):∀{o:Ob},ObR ρ w b c o→ObR σ w' b c o
 | .cl _ _ _ _,⟨m,rest,fr,h1,h2,h3⟩=>⟨m,rest,fr,hw.trans h1,h2.mono (VR.mono h),h3⟩
 | .it _ _,h1=>hw.trans h1
 | .mp _,⟨L,ck,h1,h2⟩=>⟨L,ck,hw.trans h1,h2.mono (MR.mono h)⟩
structure IV (n0:Nat)(w0:World)(ρ:Rho)(nx:Nat)(h:Hp)(w:World):Prop where
 fresh:∀i,nx≤i→ρ i=none
 low:Below n0 w0 w
 hn:n0≤w0.heap.size
 rng:∀i b c,ρ i=some (b,c)→n0≤b∧b<w.heap.size
 ob:∀x∈h,∃b c,ρ x.1=some (b,c)∧ObR ρ w b c x.2
 inj:∀x∈h,∀y∈h,x.1≠y.1→∀b c b' c',ρ x.1=some (b,c)→ρ y.1=some (b',c')→b≠b'
def Rho.put (ρ:Rho)(i:Nat)(x:Nat×Nat):Rho:=fun j=>if j=i then some x else ρ j
theorem Rho.put_le {ρ:Rho} {i:Nat} {x:Nat×Nat} (h:ρ i=none):ρ.le (ρ.put i x):=by
 intro j y hy;unfold Rho.put;split
 · rename_i e;rw [e,h] at hy;cases hy
 · exact hy
theorem Rho.put_self {ρ:Rho} {i:Nat} {x:Nat×Nat}:ρ.put i x i=some x:=by simp [Rho.put]
theorem Rho.put_ne {ρ:Rho} {i j:Nat} {x:Nat×Nat} (h:j≠i):ρ.put i x j=ρ j:=by simp [Rho.put,h]
section
variable {P:Program} {E:Env} {n0:Nat} {w0 w:World} {ρ:Rho} {nx fr:Nat} {h:Hp} {t:List AV} {a:Act} {o:Oper} {v:AV}
theorem IV.size (hI:IV n0 w0 ρ nx h w):n0≤w.heap.size:=Nat.le_trans hI.hn hI.low.size
theorem IV.sub {h':Hp} (hI:IV n0 w0 ρ nx h w)(hs:∀x∈h',x∈h):IV n0 w0 ρ nx h' w:=
 ⟨hI.fresh,hI.low,hI.hn,hI.rng,fun x hx=>hI.ob x (hs x hx),fun x hx y hy=>hI.inj x (hs x hx) y (hs y hy)⟩
theorem IV.drew (hI:IV n0 w0 ρ nx h w):IV n0 w0 ρ nx h w.drew:=
 ⟨hI.fresh,hI.low.drew,hI.hn,hI.rng,fun x hx=>by
  obtain⟨b,c,h1,h2⟩:=hI.ob x hx;exact⟨b,c,h1,h2.mono ρ.le_refl rfl⟩,hI.inj⟩
theorem IV.next (hI:IV n0 w0 ρ nx h w)(k:Nat):IV n0 w0 ρ (nx+k) h w:=
 ⟨fun i hi=>hI.fresh i (by omega),hI.low,hI.hn,hI.rng,hI.ob,hI.inj⟩
theorem ZfT (w:World)(ob:Obj):(w.alloc ob).heap[w.heap.size]? =some ob:=by
 show(w.heap.push ob)[w.heap.size]? =some ob
 simp
theorem alloc_old (w:World)(ob:Obj){k:Nat} (hk:k<w.heap.size):(w.alloc ob).heap[k]? =w.heap[k]?:=Below.heap_alloc w ob k hk
theorem IV.new (hI:IV n0 w0 ρ nx h w)(hf:fr<nx)(hn:ρ fr=none)(ob:Obj)(c:Nat)(x:Ob)(hx:ObR (ρ.put fr (w.heap.size,c)) (w.alloc ob) w.heap.size c x):
 IV n0 w0 (ρ.put fr (w.heap.size,c)) nx ((fr,x)::h) (w.alloc ob):=by
 have hle:=Rho.put_le (x:=(w.heap.size,c)) hn;refine⟨fun i hi=>by rw [Rho.put_ne (by omega)];exact hI.fresh i hi,hI.low.alloc hI.size _,hI.hn,?_,?_,?_⟩
 · intro i b c' hi;by_cases e:i=fr
   · subst e;rw [Rho.put_self] at hi;injection hi with hi
     injection hi with h1 h2
     subst h1;exact⟨hI.size,by simp⟩
   · rw [Rho.put_ne e] at hi;have:=hI.rng i b c' hi;simp;omega
 · intro y hy;rcases List.mem_cons.1 hy with rfl|hy
   · exact⟨_,_,Rho.put_self,hx⟩
   · obtain⟨b,c',h1,h2⟩:=hI.ob y hy;exact⟨b,c',hle _ _ h1,h2.mono hle (alloc_old w ob (hI.rng _ _ _ h1).2)⟩
 · intro y hy z hz hne b c1 b' c2 hb hb';have old:∀y∈h,∀b c1,ρ.put fr (w.heap.size,c) y.1=some (b,c1)→ρ y.1=some (b,c1):=by
    intro y hy b c1 hb;obtain⟨b2,c3,h1,_⟩:=hI.ob y hy;rw [hle _ _ h1] at hb;rw [h1];exact hb
   rcases List.mem_cons.1 hy with rfl|hy<;>rcases List.mem_cons.1 hz with rfl|hz
   · exact absurd rfl hne
   · have e:=old z hz _ _ hb';rw [Rho.put_self] at hb;injection hb with hb
     injection hb with h1 h2
     have:=(hI.rng _ _ _ e).2;omega
   · have e:=old y hy _ _ hb;rw [Rho.put_self] at hb';injection hb' with hb'
     injection hb' with h1 h2
     have:=(hI.rng _ _ _ e).2;omega
   · exact hI.inj y hy z hz hne _ _ _ _ (old y hy _ _ hb) (old z hz _ _ hb')
def ZaH (P:Program)(n0:Nat)(w0:World)(ρ:Rho)(nx fr:Nat)(a:Act)(o:Oper)(v:AV)(h':Hp)(w:World):Prop:=
 ∃ρ' w' V,AR ρ' v V∧((execOp a.eval o).run P w= .ok (.value V) w'∨(V=undef∧(execOp a.eval o).run P w= .ok .skip w'))∧IV n0 w0 ρ' nx h' w'∧ρ.le ρ'∧∀i,i≠fr→ρ' i=ρ i
theorem ZcR {s:Sem Value} {ρ':Rho} {w':World} {V:Value} {h':Hp} (hx:execOp a.eval o=(do let v←s;pure (.value v)))(hV:AR ρ' v V)(hr:s.run P w= .ok V w')(hI:IV n0 w0 ρ' nx h' w')(hle:ρ.le ρ')(hs:∀i,i≠fr→ρ' i=ρ i):ZaH P n0 w0 ρ nx fr a o v h' w:=
 ⟨ρ',w',V,hV,.inl (by rw [hx];simp [hr]),hI,hle,hs⟩
theorem ZdZ (e:TypeId)(cs:Array Value)(w:World):(newRow e cs).run P w= .ok ⟨w.heap.size,0,none⟩ (w.alloc (.cells cs e)):=rfl
theorem Zgp (σ:Rho)(w:World)(l:List Cl)(m rest:List Value)(e sz c row:Nat)(hl:LR σ l m)(hr:row=0→rest=[])(hc:(m++rest).length=c*sz)(hm:row=1→c≤maxLen):
 ObR σ (w.alloc (.cells (m++rest).toArray e)) w.heap.size c (.cl l e sz row):=
 ⟨m,rest,(0,0),ZfT _ _,hl,hr,hc,fun j _ hh=>by omega,fun _=>rfl,hm⟩
theorem Zqh (hE:∀t ti,E.ty t=some ti→TyOk P t ti)(hI:IV n0 w0 ρ nx h w)(hf:fr<nx)(hn:ρ fr=none){e:Nat} (ho:o.op= .alloc e){h':Hp} (hh:eff E fr t h o.op=some (v,h')):
 ZaH P n0 w0 ρ nx fr a o v h' w:=by
 rw [ho] at hh;simp only [eff,Zky] at hh;obtain⟨ti,h1,hh⟩:=Zb hh;simp only [Option.some.injEq,Prod.mk.injEq] at hh;obtain⟨rfl,rfl⟩:=hh;obtain⟨z,hz1,hz2,_⟩:=(hE _ _ h1).zero;have hle:=Rho.put_le (x:=(w.heap.size,z.cells.toList.length)) hn;refine ZcR (s:=Instr.alloc e true (.tuple #[])) (V:= .pointer (some ⟨w.heap.size,0,none⟩)) (by unfold execOp;simp only [ho]) ⟨_,_,Rho.put_self,rfl⟩ ?_
  (hI.new hf hn (.cells (z.cells.toList++[]).toArray e) z.cells.toList.length _ (Zgp _ _ _ _ [] _ 1 _ _ ((hz2 ρ).mono (VR.mono hle)) (fun _=>rfl) (by simp) (by simp))) hle (fun i hi=>Rho.put_ne hi)
 simp [Instr.alloc,hz1,newVar,ZdZ]
theorem Zqk (ht:TR ρ t a)(hI:IV n0 w0 ρ nx h w)(hf:fr<nx)(hn:ρ fr=none){e:Nat} {x:Operand} (ho:o.op= .box e x){h':Hp} (hh:eff E fr t h o.op=some (v,h')):
 ZaH P n0 w0 ρ nx fr a o v h' w:=by
 rw [ho] at hh;simp only [eff,eBox] at hh;obtain⟨u,h1,hh⟩:=Zb hh;split at hh
 · cases hh
 rename_i hT
 simp only [Option.some.injEq,Prod.mk.injEq] at hh;obtain⟨rfl,rfl⟩:=hh;have hc:=(Zj ht h1).cells (by simpa using hT);have hle:=Rho.put_le (x:=(w.heap.size,(a.eval x).cells.toList.length)) hn;refine ZcR (s:=Instr.box e (a.eval x)) (V:= .pointer (some ⟨w.heap.size,0,none⟩)) (by unfold execOp;simp only [ho]) ⟨_,_,Rho.put_self,rfl⟩ ?_
  (hI.new hf hn (.cells ((a.eval x).cells.toList++[]).toArray e) (a.eval x).cells.toList.length _ (Zgp _ _ _ _ [] _ 1 _ _ (hc.mono (VR.mono hle)) (fun _=>rfl) (by simp) (by simp))) hle (fun i hi=>Rho.put_ne hi)
 simp [Instr.box,newVar,ZdZ]
theorem ZgS {α:Type} (z:List α):∀n,(zeros z n).length=n*z.length
 |0=>by simp [zeros]
 |n+1=>by rw [zeros,List.length_append,ZgS z n,Nat.succ_mul];omega
theorem Zni {α:Type} (z:List α)(n:Nat):∀m,zeros z (m+n)=zeros z m++zeros z n
 |0=>by simp [zeros]
 |m+1=>by rw [Nat.succ_add,zeros,Zni z n m,zeros,List.append_assoc]
theorem Znj {α:Type} (z:List α):∀(n i:Nat),i<n*z.length→(zeros z n)[i]? =z[i % z.length]?
 |0,i,h=>by omega
 |n+1,i,h=>by
  rw [zeros];by_cases hi:i<z.length
  · rw [List.getElem?_append_left hi,Nat.mod_eq_of_lt hi]
  · rw [List.getElem?_append_right (by omega),Znj z n _ (by rw [Nat.succ_mul] at h;omega)];congr 1
    conv=>rhs;rw [show i=(i - z.length)+z.length from by omega,Nat.add_mod_right]
theorem LR.zeros {l:List Cl} {m:List Value} (hl:LR ρ l m):∀n,LR ρ (zeros l n) (zeros m n)
 |0=>trivial
 |n+1=>hl.app (LR.zeros hl n)
theorem Zmm (z:Array Value)(n:Nat):((Array.range (n*z.size)).map (fun i=>z[i % z.size]!)).toList=zeros z.toList n:=by
 apply List.ext_getElem?
 intro i;by_cases hi:i<n*z.size
 · rw [Znj z.toList n i (by rw [Array.length_toList];exact hi)];have hz:0<z.size:=by
    rcases Nat.eq_zero_or_pos z.size with e|e
    · rw [e] at hi;omega
    · exact e
   have hm:=Nat.mod_lt i hz;simp [hi,hm]
 · rw [List.getElem?_eq_none (by simpa using hi),List.getElem?_eq_none (by rw [ZgS,Array.length_toList];omega)]
end
end Ev
end Go.Proofs.YtecandjkbbpooaaGreatDoor
