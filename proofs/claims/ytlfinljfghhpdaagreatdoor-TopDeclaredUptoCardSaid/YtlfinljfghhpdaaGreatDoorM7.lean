/- Lemmas for a statement on the tops; conditions: as each says. -/
import Derived.Test.YtlfinljfghhpdaaGreatDoorM6
set_option linter.unusedVariables false
set_option linter.unusedSimpArgs false
set_option maxRecDepth 100000
set_option maxHeartbeats 200000
namespace Go.Proofs.YtlfinljfghhpdaaGreatDoor
open Go
namespace Ev
section
variable {P:Program} {E:Env} {ρ:Rho} {t:List AV} {a:Act} {o:Oper} {v:AV}
theorem ZmR {α β:Type} (f:α→Sem β)(g:α→β):∀(l:List α) (w:World),(∀x∈l,∀w,(f x).run P w= .ok (g x) w)→(l.mapM f).run P w= .ok (l.map g) w
 |[],w,_=>by simp
 |x::l,w,h=>by
  rw [List.mapM_cons];simp [h x (by simp),ZmR f g l w (fun y hy=>h y (by simp [hy]))]
theorem Zty {α β:Type} (f:α→Sem β)(g:α→β)(l:Array α)(w:World)(h:∀x∈l,∀w,(f x).run P w= .ok (g x) w):(l.mapM f).run P w= .ok (l.map g) w:=by
 rw [Array.mapM_eq_mapM_toList];simp only [Sem.run_map,ZmR f g l.toList w (fun x hx=>h x (by simpa using hx)),Result.andThen_ok];congr 1
 apply Array.ext'
 simp
theorem run_build (hE:∀t ti,E.ty t=some ti→TyOk P t ti)(ht:TR ρ t a){ty:Nat} {ps:Array (Nat×Operand)} (h:pop E t (.build ty ps)=some v):
 ∃V,AR ρ v V∧∀w,(Instr.build ty (ps.map fun(i,x)=>(i,a.eval x))).run P w= .ok V w:=by
 simp only [pop,Zme] at h;obtain⟨ti,h1,h⟩:=Zc h;have hT:=hE _ _ h1;obtain⟨d,hd1,hd2⟩:=hT.und;obtain⟨z,hz1,hz2,hz3,hz4⟩:=hT.zero;split at h
 · rename_i fs hk
   rw [hk] at hd2;obtain⟨l,h2,h⟩:=Zc h;injection h with h;subst h
   cases d<;>first|exact hd2.elim|skip
   rename_i fields
   obtain⟨e1,e2⟩:=hd2;have hpl:places fs=fun i=>(fields.map fun f=>(f.offset,P.cellsOf f.type))[i]?:=by
    funext i
    rw [places,ZaZ,e1];simp only [List.getElem?_map,Array.getElem?_map,Array.getElem?_toList];cases fields[i]? <;>rfl
   obtain⟨m',f1,f2⟩:=Zfu ht h2 (hz2 ρ);refine⟨.agg m',⟨m'.toList,by simp,f2⟩,fun w=> ?_⟩;have hmap:∀w,(fields.mapM (fun f=>(do pure (f.offset,←sizeOf f.type):Sem (Nat×Nat)))).run P w= .ok (fields.map fun f=>(f.offset,P.cellsOf f.type)) w:=fun w=>
    Zty _ _ fields w (fun f hf w=>by
     have:=e2 f hf;cases hi:P.info? f.type with
     |none=>rw [hi] at this;cases this
     |some info=>simp [sizeOf,run_ti hi,Program.cellsOf,hi])
   rw [hpl] at f1;have hps:(ps.map fun(i,x)=>(i,a.eval x)).toList=ps.toList.map fun p=>(p.1,a.eval p.2):=by simp
   simp only [Instr.build,Sem.run_bind,hz1,Result.andThen_ok,run_und hd1,hmap,hps,f1];rfl
 · rename_i n e hk
   rw [hk] at hd2;obtain⟨te,h3,h⟩:=Zc h;have hTe:=hE _ _ h3;obtain⟨l,h2,h⟩:=Zc h;injection h with h;subst h
   cases d<;>first|exact hd2.elim|skip
   obtain⟨rfl,rfl⟩:=hd2;obtain⟨m',f1,f2⟩:=Zfu ht h2 (hz2 ρ);refine⟨.agg m',⟨m'.toList,by simp,f2⟩,fun w=> ?_⟩;have hps:(ps.map fun(i,x)=>(i,a.eval x)).toList=ps.toList.map fun p=>(p.1,a.eval p.2):=by simp
   simp only [Instr.build,Sem.run_bind,hz1,Result.andThen_ok,run_und hd1,hTe.sizeOf,hps,f1];rfl
 · cases h
theorem Zeu {x:Operand} {n:Nat} (ht:TR ρ t a)(h:evN t x=some n):∃k,a.eval x= .int k n:=by
 unfold evN at h;split at h
 · rename_i k n' h1
   injection h with h;subst h
   exact⟨k,Zh ht h1⟩
 · cases h
theorem Zhj {x:Operand} {b:Bool} (ht:TR ρ t a)(h:evB t x=some b):a.eval x= .bool b:=by
 unfold evB at h;split at h
 · rename_i h1
   injection h with h;subst h
   exact Zh ht h1
 · cases h
theorem Zua (l:List UInt8)(n:Nat):(Bs l)[n]? =l[n]?:=by
 by_cases h:n<l.length
 · rw [getElem?_pos (Bs l) n (by simpa [Bs,ByteArray.size] using h),List.getElem?_eq_getElem h];rfl
 · rw [getElem?_neg (Bs l) n (by simpa [Bs,ByteArray.size] using h),List.getElem?_eq_none (by omega)]
theorem Zbs (l:List UInt8):(Bs l).size=l.length:=by simp [Bs,ByteArray.size]
theorem ZcN (l:List UInt8):(Bs l).data.toList=l:=by simp [Bs]
theorem Bs_of (s:ByteArray):s=Bs s.data.toList:=by simp [Bs]
theorem Bs_ext (l:List UInt8)(a b:Nat):(Bs l).extract a b=Bs ((l.drop a).take (b - a)):=by
 rw [Bs_of ((Bs l).extract a b)];congr 1
 simp [Bs,List.extract_eq_take_drop]
theorem Ze0 (l:List UInt8):(Bs l).toList=l:=by rw [ByteArray.toList_eq,ZcN]
theorem add_eq (b o n:Nat):(⟨b,o,none⟩:Addr).add n=⟨b,o+n,none⟩:=by unfold Addr.add;split<;>simp_all
theorem Ztw (hE:∀t ti,E.ty t=some ti→TyOk P t ti)(ht:TR ρ t a){ty:Nat} {x i:Operand} (h:pop E t (.index ty x i)=some v):
 ∃V,AR ρ v V∧∀w,(Instr.index ty (a.eval x) (a.eval i)).run P w= .ok V w:=by
 simp only [pop,Zmj] at h;obtain⟨n,h0,h⟩:=Zc h;obtain⟨ti,h1,h⟩:=Zc h;obtain⟨k,hi⟩:=Zeu ht h0;have hT:=hE _ _ h1;obtain⟨d,hd1,hd2⟩:=hT.und;split at h
 · rename_i l hk hx
   rw [hk] at hd2;cases d<;>first|exact hd2.elim|skip
   have hX:a.eval x= .string (Bs l):=Zh ht hx;obtain⟨u,h3,h⟩:=Zc h;injection h with h;subst h
   rw [ZaZ] at h3;refine⟨.int .u8 u.toNat,rfl,fun w=> ?_⟩;simp [Instr.index,hi,hX,asIntOf,run_und hd1,Zua,h3]
 · rename_i kk e l hk hx
   rw [hk] at hd2;cases d<;>first|exact hd2.elim|skip
   obtain⟨rfl,rfl⟩:=hd2;split at h
   · rename_i hlt
     obtain⟨te,h3,h⟩:=Zc h;have hTe:=hE _ _ h3;obtain⟨m,hX,hl⟩:AR ρ (.a l) (a.eval x):=Zh ht hx;obtain⟨V,hV,hp⟩:=ZfV hTe h hl;refine⟨V,hV,fun w=> ?_⟩;simp [Instr.index,hi,hX,asIntOf,run_und hd1,hlt,hTe.sizeOf,hp]
   · cases h
 · cases h
theorem Ztx (hE:∀t ti,E.ty t=some ti→TyOk P t ti)(ht:TR ρ t a){ty:Nat} {x i:Operand} (h:pop E t (.indexAddr ty x i)=some v):
 ∃V,AR ρ v V∧∀w,(Instr.indexAt ty (a.eval x) (a.eval i)).run P w= .ok V w:=by
 simp only [pop,Zmk] at h;obtain⟨n,h0,h⟩:=Zc h;obtain⟨ti,h1,h⟩:=Zc h;obtain⟨k,hi⟩:=Zeu ht h0;have hT:=hE _ _ h1;obtain⟨d,hd1,hd2⟩:=hT.und;split at h
 · rename_i kk e id off hk hx
   rw [hk] at hd2;cases d<;>first|exact hd2.elim|skip
   obtain⟨rfl,rfl⟩:=hd2;split at h
   · rename_i hlt
     obtain⟨te,h3,h⟩:=Zc h;have hTe:=hE _ _ h3;injection h with h;subst h
     obtain⟨b,c,hb,hX⟩:AR ρ (.c (.p id off)) (a.eval x):=Zh ht hx;refine⟨.pointer (some ⟨b,off+n*te.size,none⟩),⟨b,c,hb,rfl⟩,fun w=> ?_⟩;simp [Instr.indexAt,hi,hX,asIntOf,run_und hd1,hlt,hTe.sizeOf,Instr.sureAddr,add_eq]
   · cases h
 · rename_i kk e id off hk hx
   rw [hk] at hd2;cases d<;>first|exact hd2.elim|skip
   obtain⟨rfl,rfl⟩:=hd2;split at h
   · rename_i hlt
     obtain⟨te,h3,h⟩:=Zc h;have hTe:=hE _ _ h3;injection h with h;subst h
     have hX:a.eval x= .pointer (some ⟨id,off,none⟩):=Zh ht hx;refine⟨.pointer (some ⟨id,off+n*te.size,none⟩),rfl,fun w=> ?_⟩;simp [Instr.indexAt,hi,hX,asIntOf,run_und hd1,hlt,hTe.sizeOf,Instr.sureAddr,add_eq]
   · cases h
 · rename_i e id off len cut hk hx
   rw [hk] at hd2;cases d<;>first|exact hd2.elim|skip
   have hd3:e=_:=hd2;subst hd3;split at h
   · rename_i hlt
     obtain⟨te,h3,h⟩:=Zc h;have hTe:=hE _ _ h3;injection h with h;subst h
     obtain⟨b,c,o',hb,hc,ho,hX⟩:AR ρ (.c (.sl id off len cut)) (a.eval x):=Zh ht hx;have ho':o'=off:=ho (.inl (by omega));subst ho';refine⟨.pointer (some ⟨b,o'+n*te.size,none⟩),⟨b,c,hb,rfl⟩,fun w=> ?_⟩;simp [Instr.indexAt,hi,hX,asIntOf,run_und hd1,hlt,hTe.sizeOf,add_eq]
   · cases h
 · cases h
theorem Ztu (hE:∀t ti,E.ty t=some ti→TyOk P t ti)(ht:TR ρ t a){ty:Nat} {x:Operand} {f:Nat} (h:pop E t (.field ty x f)=some v):
 ∃V,AR ρ v V∧∀w,(Instr.field ty (a.eval x) f).run P w= .ok V w:=by
 simp only [pop,Zmh] at h;obtain⟨ti,h1,h⟩:=Zc h;have hT:=hE _ _ h1;obtain⟨d,hd1,hd2⟩:=hT.und;split at h
 · rename_i fs l hk hx
   rw [hk] at hd2;cases d<;>first|exact hd2.elim|skip
   rename_i fields
   obtain⟨e1,e2⟩:=hd2;obtain⟨fo,h2,h⟩:=Zc h;obtain⟨tf,h3,h⟩:=Zc h;have hTf:=hE _ _ h3;obtain⟨m,hX,hl⟩:AR ρ (.a l) (a.eval x):=Zh ht hx;rw [ZaZ,e1,List.getElem?_map,Array.getElem?_toList] at h2;cases hf:fields[f]? with
   |none=>rw [hf] at h2;cases h2
   |some fl=>
    rw [hf] at h2;simp only [Option.map_some,Option.some.injEq] at h2;subst h2;obtain⟨V,hV,hp⟩:=ZfV hTf h hl;refine⟨V,hV,fun w=> ?_⟩;simp [Instr.field,hX,run_und hd1,hf,asAgg,hp]
 · cases h
theorem Ztv (hE:∀t ti,E.ty t=some ti→TyOk P t ti)(ht:TR ρ t a){ty:Nat} {x:Operand} {f:Nat} (h:pop E t (.fieldAddr ty x f)=some v):
 ∃V,AR ρ v V∧∀w,(Instr.fieldAt ty (a.eval x) f).run P w= .ok V w:=by
 simp only [pop,Zmi] at h;obtain⟨ti,h1,h⟩:=Zc h;have hT:=hE _ _ h1;obtain⟨d,hd1,hd2⟩:=hT.und;have key:∀(fields:Array Field) (fs:List (Nat×Nat×Nat)) (fo:Nat×Nat×Nat) (b off:Nat),fs=fields.toList.map (fun f=>(f.type,f.offset,P.cellsOf f.type))→(∀f∈fields,(P.info? f.type).isSome=true)→
  ZaB fs f=some fo→fo.2.2≠0→P.underlying ty=some (.struct fields)→∀w,(Instr.fieldAt ty (.pointer (some ⟨b,off,none⟩)) f).run P w= .ok (.pointer (some ⟨b,off+fo.2.1,none⟩)) w:=by
  intro fields fs fo b off e1 e2 h2 h3 hu w;rw [ZaZ,e1,List.getElem?_map,Array.getElem?_toList] at h2;cases hf:fields[f]? with
  |none=>rw [hf] at h2;cases h2
  |some fl=>
   rw [hf] at h2;simp only [Option.map_some,Option.some.injEq] at h2;subst h2;have:=e2 fl (Array.mem_of_getElem? hf);cases hi:P.info? fl.type with
   |none=>rw [hi] at this;cases this
   |some info=>
    have hs:info.size≠0:=by simpa [Program.cellsOf,hi] using h3
    simp [Instr.fieldAt,run_und hu,hf,Instr.sureAddr,fieldPlace,sizeOf,run_ti hi,hs,add_eq]
 split at h
 · rename_i fs id off hk hx
   rw [hk] at hd2;cases d<;>first|exact hd2.elim|skip
   rename_i fields
   obtain⟨e1,e2⟩:=hd2;obtain⟨fo,h2,h⟩:=Zc h;split at h
   · cases h
   · rename_i hne
     injection h with h;subst h
     obtain⟨b,c,hb,hX⟩:AR ρ (.c (.p id off)) (a.eval x):=Zh ht hx;exact⟨_,⟨b,c,hb,rfl⟩,fun w=>by rw [hX];exact key fields fs fo b off e1 e2 h2 hne hd1 w⟩
 · rename_i fs id off hk hx
   rw [hk] at hd2;cases d<;>first|exact hd2.elim|skip
   rename_i fields
   obtain⟨e1,e2⟩:=hd2;obtain⟨fo,h2,h⟩:=Zc h;split at h
   · cases h
   · rename_i hne
     injection h with h;subst h
     have hX:a.eval x= .pointer (some ⟨id,off,none⟩):=Zh ht hx;exact⟨_,rfl,fun w=>by rw [hX];exact key fields fs fo id off e1 e2 h2 hne hd1 w⟩
 · cases h
end
end Ev
namespace Ev
def Zct (P:Program)(t:Nat)(ti:TI):Prop:=∀(l m:List Cl) (L M:List Value) (ρ:Rho),shp ti.zero l=true→shp ti.zero m=true→LR ρ l L→LR ρ m M→
 (∀w,(Op.equal t (.agg L.toArray) (.agg M.toArray)).run P w= .ok (decide (l=m)) w)∧P.eqGuardType P.depth t=false
section
variable {P:Program} {E:Env} {ρ:Rho} {t:List AV} {a:Act} {o:Oper} {v:AV}
theorem ZkL {x:Option Operand} {d n:Nat} (ht:TR ρ t a)(h:evO t d x=some n):(x=none∧n=d)∨∃y k,x=some y∧a.eval y= .int k n:=by
 cases x with
 |none=>simp only [evO,Option.some.injEq] at h;exact .inl ⟨rfl,h.symm⟩
 |some y=>
  obtain⟨k,hk⟩:=Zeu ht (show evN t y=some n from h);exact .inr ⟨y,k,rfl,hk⟩
theorem Zf2 {k:IntKind} {n y:Nat} (code:BoundsCode)(h:n≤y)(w:World):(Instr.sliceBound (.int k n) y code).run P w= .ok n w:=by
 simp [Instr.sliceBound,asIntOf,h]
theorem Zf3 {lo hi:Option Operand} {l h len cap:Nat} (isS:Bool)(ht:TR ρ t a)(h1:evO t 0 lo=some l)(h2:evO t len hi=some h)(h3:l≤h)(h4:h≤cap)(w:World):
 (Instr.sliceBounds isS len cap (lo.map a.eval) (hi.map a.eval) none).run P w= .ok (l,h,cap) w:=by
 rcases ZkL ht h1 with⟨rfl,rfl⟩|⟨y,k,rfl,hy⟩<;>rcases ZkL ht h2 with⟨rfl,rfl⟩|⟨z,k',rfl,hz⟩
 · simp [Instr.sliceBounds]
 · simp [Instr.sliceBounds,hz,Zf2 _ h4]
 · simp [Instr.sliceBounds,hy,Zf2 _ h3]
 · simp [Instr.sliceBounds,hy,hz,Zf2 _ h3,Zf2 _ h4]
theorem Ztz (hE:∀t ti,E.ty t=some ti→TyOk P t ti)(ht:TR ρ t a){ty:Nat} {x:Operand} {lo hi mx:Option Operand} (h:pop E t (.slice ty x lo hi mx)=some v):
 ∃V,AR ρ v V∧∀w,(Instr.sliceAt ty (a.eval x) (lo.map a.eval) (hi.map a.eval) (mx.map a.eval)).run P w= .ok V w:=by
 cases mx with
 |some q=>simp [pop] at h
 |none=>
 simp only [pop,Zmn] at h;obtain⟨ti,h1,h⟩:=Zc h;have hT:=hE _ _ h1;obtain⟨d,hd1,hd2⟩:=hT.und;split at h
 · rename_i l hk hx
   rw [hk] at hd2;cases d<;>first|exact hd2.elim|skip
   have hX:a.eval x= .string (Bs l):=Zh ht hx;obtain⟨n,h2,h⟩:=Zc h;obtain⟨m,h3,h⟩:=Zc h;split at h
   · rename_i hc
     injection h with h;subst h
     refine⟨.string (Bs ((l.drop n).take (m - n))),rfl,fun w=> ?_⟩;have hb:=fun w=>Zf3 (P:=P) (a:=a) (cap:=l.length) false ht h2 h3 hc.1 hc.2 w;simp [Instr.sliceAt,Instr.slice,hX,run_und hd1,Zbs,hb,Bs_ext]
   · cases h
 · rename_i e id off len cut hk hx
   rw [hk] at hd2;cases d<;>first|exact hd2.elim|skip
   have hd3:e=_:=hd2;subst hd3;obtain⟨b,c,o',hb,hc,ho,hX⟩:AR ρ (.c (.sl id off len cut)) (a.eval x):=Zh ht hx;obtain⟨n,h2,h⟩:=Zc h;obtain⟨m,h3,h⟩:=Zc h;split at h
   · rename_i hcd
     obtain⟨te,h4,h⟩:=Zc h;have hTe:=hE _ _ h4;injection h with h;subst h
     have hbd:=fun w=>Zf3 (P:=P) (a:=a) (cap:=c - cut) true ht h2 h3 hcd.1 (by omega) w;obtain⟨C,hC⟩:∃C,c - cut=C:=⟨_,rfl⟩
     rw [hC] at hbd hX;by_cases hm:C=n
     · refine⟨.slice (some ⟨b,o',none⟩) (m - n) (C - n),⟨b,c,o',hb,by omega,fun hh=> ?_,by congr 1;omega⟩,fun w=> ?_⟩
       · have:m=n:=by omega
         rcases hh with hh|hh
         · omega
         · have:cut=0:=by omega
           have:n=0:=by omega
           subst this;rw [Nat.zero_mul,Nat.add_zero];exact ho (.inr ‹_›)
       · simp only [Instr.sliceAt,Instr.slice,hX,run_und hd1,hbd,hTe.sizeOf,Sem.run_bind,Result.andThen_ok,Option.map_none,if_pos hm,Sem.run_pure]
     · refine⟨.slice (some ⟨b,o'+n*te.size,none⟩) (m - n) (C - n),⟨b,c,o'+n*te.size,hb,by omega,fun hh=> ?_,by congr 1;omega⟩,fun w=> ?_⟩
       · have:o'=off:=ho (by omega);rw [this]
       · simp only [Instr.sliceAt,Instr.slice,hX,run_und hd1,hbd,hTe.sizeOf,Sem.run_bind,Result.andThen_ok,Option.map_none,Option.map_some,if_neg hm,Sem.run_pure,add_eq]
   · cases h
 · rename_i e hk hx
   rw [hk] at hd2;cases d<;>first|exact hd2.elim|skip
   have hd3:e=_:=hd2;subst hd3;have hX:a.eval x= .slice none 0 0:=Zh ht hx;obtain⟨te,h4,h⟩:=Zc h;have hTe:=hE _ _ h4;obtain⟨n,h2,h⟩:=Zc h;obtain⟨m,h3,h⟩:=Zc h;split at h
   · rename_i hcd
     simp only [Option.some.injEq] at h;subst h;obtain⟨rfl,rfl⟩:=hcd;have hbd:=fun w=>Zf3 (P:=P) (a:=a) (cap:=0) true ht h2 h3 (Nat.le_refl _) (Nat.le_refl _) w;refine⟨.slice none 0 0,rfl,fun w=> ?_⟩;simp [Instr.sliceAt,Instr.slice,hX,run_und hd1,hbd,hTe.sizeOf]
   · cases h
 · cases h
end
end Ev
namespace Ev
section
variable {P:Program} {E:Env} {ρ:Rho} {t:List AV} {a:Act} {o:Oper} {v:AV}
theorem Zik (op:BinOp)(ty:Nat)(x y:Operand){A B:Value} (h1:∀cs,A≠ .agg cs)(h2:A≠ .nilIface)(w:World):(eqGuard op ty x y A B).run P w= .ok () w:=by
 cases A<;>first|exact absurd rfl (h1 _)|exact absurd rfl h2|(cases op<;>simp [eqGuard])
theorem ZrW {op:BinOp} {k:IntKind} {x y:Int} {z:Cl} (h:ZhG op k x y=some z)(ty:Nat):∃V,VR ρ z V∧∀w,(binOp op ty (.int k x) (.int k y)).run P w= .ok V w:=by
 cases op<;>simp only [ZhG] at h<;>first
  |(injection h with h;subst h;exact⟨_,rfl,fun w=>by simp [binOp,Op.intArith,Op.intBits,Op.intCmp,Zee]⟩)
  |(split at h<;>first|(cases h;done)|(rename_i hz;injection h with h;subst h;exact⟨_,rfl,fun w=>by simp [binOp,Op.intDiv,hz,Zee]⟩))
  |cases h
theorem Zm9 {op:BinOp} {k k':IntKind} {x y:Int} {z:Cl} (h:shOp op k x y=some z)(ty:Nat):∃V,VR ρ z V∧∀w,(binOp op ty (.int k x) (.int k' y)).run P w= .ok V w:=by
 unfold shOp at h;split at h
 · cases h
 · rename_i hy
   cases op<;>simp only at h<;>first
    |(injection h with h;subst h;exact⟨_,rfl,fun w=>by simp [binOp,Op.shift,hy,Zee,Zs8]⟩)
    |cases h
theorem Zt9 {op:BinOp} {x y:List UInt8} {z:Cl} (h:Ziy op x y=some z)(ty:Nat):∃V,VR ρ z V∧∀w,(binOp op ty (.string (Bs x)) (.string (Bs y))).run P w= .ok V w:=by
 cases op
 case add=>
  simp only [Ziy] at h;split at h
  · injection h with h;subst h
    refine⟨_,rfl,fun w=> ?_⟩;have h2:¬(((Bs x).size+(Bs y).size:Nat):Int)>IntKind.i64.max:=by
     rw [Zbs,Zbs];have:IntKind.i64.max=9223372036854775807:=by decide
     omega
    simp only [binOp,Op.stringOp,if_neg h2,Sem.run_pure];congr 2
  · cases h
 case eql=>injection h with h;subst h;exact⟨_,rfl,fun w=>by simp [binOp,Op.stringOp,Ze0]⟩
 case neq=>injection h with h;subst h;exact⟨_,rfl,fun w=>by simp [binOp,Op.stringOp,Ze0]⟩
 all_goals cases h
theorem Zsx {ty:Nat} {ti:TI} (hT:TyOk P ty ti){x y:Cl} {X Y:Value} {b:Bool} (h:Zdx ti.k x y=some b)(hx:VR ρ x X)(hy:VR ρ y Y)(w:World)(dd:Nat):(Op.equalIn (dd+1) ty X Y).run P w= .ok b w∧X≠ .nilIface:=by
 obtain⟨d,hd1,hd2⟩:=hT.und;generalize ti.k=K at*;unfold Zdx at h;split at h<;>first|(cases h;done)|skip
 all_goals
  injection h with h
  subst h;cases d<;>first|exact hd2.elim|skip
 · simp only [VR] at hx hy;subst hx hy;exact⟨by simp [Op.equalIn,run_und hd1],by simp⟩
 · simp only [VR] at hx hy;subst hx hy;exact⟨by simp [Op.equalIn,run_und hd1],by simp⟩
 · obtain⟨b',c,h1,rfl⟩:=hy;simp only [VR] at hx;subst hx;exact⟨by simp [Op.equalIn,run_und hd1],by simp⟩
 · obtain⟨b',c,h1,rfl⟩:=hx;simp only [VR] at hy;subst hy;exact⟨by simp [Op.equalIn,run_und hd1],by simp⟩
 · simp only [VR] at hx hy;subst hx hy;exact⟨by simp [Op.equalIn,run_und hd1],by simp⟩
 · obtain⟨b',c,o',h1,h2,h3,rfl⟩:=hy;simp only [VR] at hx;subst hx;exact⟨by simp [Op.equalIn,run_und hd1],by simp⟩
 · obtain⟨b',c,o',h1,h2,h3,rfl⟩:=hx;simp only [VR] at hy;subst hy;exact⟨by simp [Op.equalIn,run_und hd1],by simp⟩
 · simp only [VR] at hx hy;subst hx hy;exact⟨by simp [Op.equalIn,run_und hd1],by simp⟩
 · obtain⟨m,n,rfl,_⟩:=hy;simp only [VR] at hx;subst hx;exact⟨by simp [Op.equalIn,run_und hd1],by simp⟩
 · obtain⟨m,n,rfl,_⟩:=hx;simp only [VR] at hy;subst hy;exact⟨by simp [Op.equalIn,run_und hd1],by simp⟩
theorem ZhZ {ty:Nat} {ti:TI} (hT:TyOk P ty ti){x y:Cl} {X Y:Value} {b:Bool} (h:Zdx ti.k x y=some b)(hx:VR ρ x X)(hy:VR ρ y Y)(w:World):(Op.equal ty X Y).run P w= .ok b w∧X≠ .nilIface:=by
 have hd:∀d:Nat,(Op.equalIn (d+1) ty X Y).run P w= .ok b w∧X≠ .nilIface:=by
  intro dd;exact Zsx hT h hx hy w dd
 exact hd 9999
theorem Zsy {K:TK} {c d:Cl} {b:Bool} (h:Zdx K c d=some b):(∀k n,c≠ .i k n)∧(∀l,c≠ .s l):=by
 constructor
 · rintro k n rfl;cases K<;>simp [Zdx] at h
 · rintro l rfl;cases K<;>simp [Zdx] at h
theorem ZkW {op:BinOp} {b:Option Bool} (h:Zfz op b=some v):∃y,b=some y∧((op= .eql∧v= .c (.b y))∨(op= .neq∧v= .c (.b !y))):=by
 unfold Zfz at h;split at h<;>first|(cases h;done)|(injection h with h;exact⟨_,rfl,by simp [h.symm]⟩)
theorem Zj8 {ty:Nat} {X Y:Value} (hx:(∃cs,X= .agg cs)∨∃x,VR ρ x X∧(∀k n,x≠ .i k n)∧∀l,x≠ .s l):
 binOp .eql ty X Y=(do pure (.bool (←Op.equal ty X Y)))∧binOp .neq ty X Y=(do pure (.bool (!(←Op.equal ty X Y)))):=by
 have key:∀X,((∃cs,X=Value.agg cs)∨∃x,VR ρ x X∧(∀k n,x≠ .i k n)∧∀l,x≠ .s l)→(∀k n,X≠ .int k n)∧(∀k n,X≠ .float k n)∧(∀k n m,X≠ .complex k n m)∧∀s,X≠ .string s:=by
  intro X h;rcases h with⟨cs,rfl⟩|⟨x,hx,h1,h2⟩
  · simp
  · cases x<;>simp only [VR] at hx<;>first
     |(subst hx;simp;done)
     |(exact absurd rfl (h1 _ _))
     |(exact absurd rfl (h2 _))
     |(obtain⟨b,c,_,rfl⟩:=hx;simp;done)
     |(obtain⟨b,c,o,_,_,_,rfl⟩:=hx;simp;done)
     |(obtain⟨m,n,rfl,_⟩:=hx;simp;done)
 obtain⟨a1,a2,a3,a4⟩:=key X hx;cases X<;>first
  |exact absurd rfl (a1 _ _)
  |exact absurd rfl (a2 _ _)
  |exact absurd rfl (a3 _ _ _)
  |exact absurd rfl (a4 _)
  |exact⟨rfl,rfl⟩
  |(cases Y<;>exact⟨rfl,rfl⟩)
theorem Zts (hE:∀t ti,E.ty t=some ti→TyOk P t ti)(hq:∀t ti,E.eqt t=true→E.ty t=some ti→Zct P t ti){op:BinOp} {ty:Nat} {x y:Operand} {X Y:Value} {u u2:AV} (hx:AR ρ u X)(hy:AR ρ u2 Y)(h:binV E op ty u u2=some v):
 ∃V,AR ρ v V∧∀w,(do eqGuard op ty x y X Y;binOp op ty X Y).run P w= .ok V w:=by
 unfold binV at h;split at h
 · rename_i k n k' n'
   have e1:X= .int k n:=hx;have e2:Y= .int k' n':=hy;subst e1 e2;have hg:=fun w=>Zik (P:=P) op ty x y (A:= .int k n) (B:= .int k' n') (by simp) (by simp) w;have fin:∀(z:Cl),(∃V,VR ρ z V∧∀w,(binOp op ty (.int k n) (.int k' n')).run P w= .ok V w)→∃V,AR ρ (.c z) V∧∀w,(do eqGuard op ty x y (.int k n) (.int k' n');binOp op ty (.int k n) (.int k' n')).run P w= .ok V w:=by
    rintro z ⟨V,hV,hr⟩;exact⟨V,hV,fun w=>by simp only [Sem.run_bind,hg,Result.andThen_ok,hr]⟩
   split at h
   · obtain⟨z,hz,h⟩:=Zc h;injection h with h;subst h
     exact fin z (Zm9 hz ty)
   · obtain⟨z,hz,h⟩:=Zc h;injection h with h;subst h
     exact fin z (Zm9 hz ty)
   · split at h
     · rename_i hk
       subst hk;obtain⟨z,hz,h⟩:=Zc h;injection h with h;subst h
       exact fin z (ZrW hz ty)
     · cases h
 · rename_i l m
   have e1:X= .string (Bs l):=hx;have e2:Y= .string (Bs m):=hy;subst e1 e2;obtain⟨z,hz,h⟩:=Zc h;injection h with h;subst h
   obtain⟨V,hV,hr⟩:=Zt9 (P:=P) (ρ:=ρ) hz ty;exact⟨V,hV,fun w=>by simp only [Sem.run_bind,Zik (P:=P) op ty x y (A:= .string (Bs l)) (B:= .string (Bs m)) (by simp) (by simp) w,Result.andThen_ok,hr]⟩
 · rename_i c d _ _
   obtain⟨ti,h3,h⟩:=Zc h;have hT:=hE _ _ h3;obtain⟨b,hb,h⟩:=ZkW h;have hx':VR ρ c X:=hx;have hy':VR ρ d Y:=hy;have hni:=(ZhZ hT hb hx' hy' default).2;have hnc:=Zsy hb;obtain⟨be,bn⟩:=Zj8 (ρ:=ρ) (ty:=ty) (X:=X) (Y:=Y) (.inr ⟨c,hx',hnc.1,hnc.2⟩);have hg:=fun w=>Zik (P:=P) op ty x y (A:=X) (B:=Y) (VR.one hx').2.2.1 hni w;rcases h with⟨rfl,rfl⟩|⟨rfl,rfl⟩
   · exact⟨.bool b,rfl,fun w=>by simp only [Sem.run_bind,hg,Result.andThen_ok,be,(ZhZ hT hb hx' hy' w).1,Sem.run_pure]⟩
   · exact⟨.bool !b,rfl,fun w=>by simp only [Sem.run_bind,hg,Result.andThen_ok,bn,(ZhZ hT hb hx' hy' w).1,Sem.run_pure]⟩
 · rename_i l m
   obtain⟨ti,h3,h⟩:=Zc h;split at h
   · rename_i hc
     simp only [Bool.and_eq_true] at hc;obtain⟨b,hb,h⟩:=ZkW h;injection hb with hb
     subst hb;obtain⟨L,rfl,hl⟩:=hx;obtain⟨M,rfl,hm⟩:=hy;obtain⟨he,hgd⟩:=hq _ _ hc.1.1 h3 l m L M ρ hc.1.2 hc.2 hl hm;obtain⟨be,bn⟩:=Zj8 (ρ:=ρ) (ty:=ty) (X:= .agg L.toArray) (Y:= .agg M.toArray) (.inl ⟨_,rfl⟩);have hg:∀w,(eqGuard op ty x y (.agg L.toArray) (.agg M.toArray)).run P w= .ok () w:=fun w=>by
      unfold eqGuard;rcases h with⟨rfl,rfl⟩|⟨rfl,rfl⟩<;>simp [hgd]
     rcases h with⟨rfl,rfl⟩|⟨rfl,rfl⟩
     · exact⟨.bool (decide (l=m)),rfl,fun w=>by simp only [Sem.run_bind,hg,Result.andThen_ok,be,he,Sem.run_pure]⟩
     · exact⟨.bool !(decide (l=m)),rfl,fun w=>by simp only [Sem.run_bind,hg,Result.andThen_ok,bn,he,Sem.run_pure]⟩
   · cases h
 · cases h
theorem Ztr (hE:∀t ti,E.ty t=some ti→TyOk P t ti)(hq:∀t ti,E.eqt t=true→E.ty t=some ti→Zct P t ti)(ht:TR ρ t a){op:BinOp} {ty ty2:Nat} {x y:Operand} (h:pop E t (.binOp op ty x y ty2)=some v):
 ∃V,AR ρ v V∧∀w,(do eqGuard op ty x y (a.eval x) (a.eval y);binOp op ty (a.eval x) (a.eval y)).run P w= .ok V w:=by
 simp only [pop] at h;obtain⟨u,h1,h⟩:=Zc h;obtain⟨u2,h2,h⟩:=Zc h;exact Zts hE hq (Zh ht h1) (Zh ht h2) h
end
end Ev
namespace Ev
section
variable {P:Program} {E:Env} {ρ:Rho} {t:List AV} {a:Act} {o:Oper} {v:AV}
theorem run_un {op:UnOp} {u:AV} {X:Value} (hx:AR ρ u X)(h:unV op u=some v):∃V,AR ρ v V∧∀w,(Op.unary op X).run P w= .ok V w:=by
 unfold unV at h;split at h
 · rename_i b
   have e:X= .bool b:=hx;subst e;split at h
   · injection h with h;subst h
     exact⟨_,rfl,fun w=>by simp [Op.unary]⟩
   · cases h
 · rename_i k n
   have e:X= .int k n:=hx;subst e;split at h
   · injection h with h;subst h
     exact⟨_,rfl,fun w=>by simp [Op.unary,Op.intArith,Zee]⟩
   · injection h with h;subst h
     exact⟨_,rfl,fun w=>by simp [Op.unary,Op.intBits,Zee]⟩
   · cases h
 · cases h
theorem Zh9 {ρ:Rho} (ht:TR ρ t a):∀{l:List Operand} {m:List (Nat×Nat)},Zcl (l.map (ev t))=some m→PW (PtR ρ) m (l.map a.eval)
 |[],m,h=>by simp only [List.map_nil,Zcl,Option.some.injEq] at h;subst h;trivial
 |x::l,m,h=>by
  simp only [List.map_cons] at h;cases hx:ev t x with
  |none=>rw [hx] at h;simp [Zcl] at h
  |some u=>
   rw [hx] at h;cases u with
   |a _=>simp [Zcl] at h
   |t _=>simp [Zcl] at h
   |c c=>
    cases c<;>first|(simp [Zcl] at h;done)|skip
    rename_i id off
    simp only [Zcl] at h;obtain⟨r,h1,h⟩:=Zc h;injection h with h;subst h
    exact⟨Zh ht hx,Zh9 ht h1⟩
theorem Ztt (hE:∀t ti,E.ty t=some ti→TyOk P t ti)(ht:TR ρ t a){s d:Nat} {x:Operand} (h:pop E t (.convert s d x)=some v):
 ∃V,AR ρ v V∧∀w,(convert s d (a.eval x)).run P w= .ok V w:=by
 simp only [pop,Zmf] at h;obtain⟨ts,h1,h⟩:=Zc h;obtain⟨td,h2,h⟩:=Zc h;obtain⟨ds,hs1,hs2⟩:=(hE _ _ h1).und;obtain⟨dd,hd1,hd2⟩:=(hE _ _ h2).und;split at h
 · rename_i k k' k'' n e1 e2 hx
   rw [e1] at hs2;rw [e2] at hd2;have hX:a.eval x= .int k'' n:=Zh ht hx;cases ds<;>first|exact hs2.elim|skip
   cases dd<;>first|exact hd2.elim|skip
   have:k'=_:=hd2;subst this;injection h with h;subst h
   exact⟨_,rfl,fun w=>by simp [convert,run_und hs1,run_und hd1,hX,Conv.intToInt,Zee]⟩
 · rename_i l e1 e2 hx
   rw [e1] at hs2;rw [e2] at hd2;have hX:a.eval x= .string (Bs l):=Zh ht hx;cases ds<;>first|exact hs2.elim|skip
   cases dd<;>first|exact hd2.elim|skip
   injection h with h;subst h
   exact⟨_,rfl,fun w=>by simp [convert,run_und hs1,run_und hd1,hX]⟩
 · rename_i k k'' n e1 e2 hx
   rw [e1] at hs2;rw [e2] at hd2;have hX:a.eval x= .int k'' n:=Zh ht hx;cases ds<;>first|exact hs2.elim|skip
   cases dd<;>first|exact hd2.elim|skip
   injection h with h;subst h
   exact⟨_,rfl,fun w=>by simp [convert,run_und hs1,run_und hd1,hX,Conv.intToString,←Bs_of]⟩
 · cases h
theorem Zij (b:Builtin)(c:Call)(hc:c.callee= .builtin b)(ho:o.op= .call c){s:Sem Value} (hs:∀consts,builtin b c.argTypes o.type consts (c.args.map a.eval)=(do let v←s;pure (.value v))){V:Value} (hV:AR ρ v V)(hr:∀w,s.run P w= .ok V w):Yld P ρ a o v:=by
 refine Zcq (s:=s) ?_ hV hr;unfold execOp;simp only [ho,resolve,hc];exact hs _
theorem Zmw (hE:∀t ti,E.ty t=some ti→TyOk P t ti)(hq:∀t ti,E.eqt t=true→E.ty t=some ti→Zct P t ti)(ht:TR ρ t a)(h:pop E t o.op=some v):Yld P ρ a o v:=by
 cases ho:o.op with
 |move x=>
  rw [ho] at h;exact⟨_,Zh ht h,fun w=>by simp [execOp,ho]⟩
 |assign x=>
  rw [ho] at h;exact⟨_,Zh ht h,fun w=>by simp [execOp,ho]⟩
 |pick c x y=>
  rw [ho] at h;simp only [pop,pPick] at h;obtain⟨b,h1,h⟩:=Zc h;have hb:=Zhj ht h1;cases b
  · exact⟨a.eval y,Zh ht h,fun w=>by simp [execOp,ho,hb,asBool]⟩
  · exact⟨a.eval x,Zh ht h,fun w=>by simp [execOp,ho,hb,asBool]⟩
 |build ty ps=>
  rw [ho] at h;obtain⟨V,hV,hr⟩:=run_build hE ht h;exact Zcq (by unfold execOp;simp only [ho]) hV hr
 |nilCheck x=>
  rw [ho] at h;simp only [pop,Zmm] at h;split at h
  · rename_i i off hx
    injection h with h;subst h
    have hX:=Zh ht hx;obtain⟨b,c,h1,h2⟩:=hX;exact⟨_,⟨b,c,h1,rfl⟩,fun w=>by simp [execOp,ho,h2]⟩
  · rename_i i off hx
    injection h with h;subst h
    have hX:a.eval x= .pointer (some ⟨i,off,none⟩):=Zh ht hx;exact⟨_,rfl,fun w=>by simp [execOp,ho,hX]⟩
  · rename_i f fs cs hx
    injection h with h;subst h
    obtain⟨m,n,h1,h2,h3⟩:=Zh ht hx;exact⟨_,⟨m,n,rfl,h2,h3⟩,fun w=>by simp [execOp,ho,h1]⟩
  · cases h
 |extract x i=>
  rw [ho] at h;simp only [pop,Zmg] at h;split at h
  · rename_i l hx
    obtain⟨u,h1,h⟩:=Zc h;injection h with h;subst h
    obtain⟨m,hX,hl⟩:=Zh ht hx;rw [ZaZ] at h1;obtain⟨y,hy,hr⟩:=hl.get h1;exact⟨y,hr.av,fun w=>by simp [execOp,ho,hX,Instr.extract,hy]⟩
  · cases h
 |field ty x f=>
  rw [ho] at h;obtain⟨V,hV,hr⟩:=Ztu hE ht h;exact Zcq (by unfold execOp;simp only [ho]) hV hr
 |fieldAddr ty x f=>
  rw [ho] at h;obtain⟨V,hV,hr⟩:=Ztv hE ht h;exact Zcq (by unfold execOp;simp only [ho]) hV hr
 |index ty x i=>
  rw [ho] at h;obtain⟨V,hV,hr⟩:=Ztw hE ht h;exact Zcq (by unfold execOp;simp only [ho]) hV hr
 |indexAddr ty x i=>
  rw [ho] at h;obtain⟨V,hV,hr⟩:=Ztx hE ht h;exact Zcq (by unfold execOp;simp only [ho]) hV hr
 |slice ty x lo hi mx=>
  rw [ho] at h;obtain⟨V,hV,hr⟩:=Ztz hE ht h;exact Zcq (by unfold execOp;simp only [ho]) hV hr
 |binOp op ty x y ty2=>
  rw [ho] at h;obtain⟨V,hV,hr⟩:=Ztr hE hq ht h;exact Zcq (by unfold execOp;simp only [ho]) hV hr
 |unOp op ty x=>
  rw [ho] at h;simp only [pop] at h;obtain⟨u,h1,h⟩:=Zc h;obtain⟨V,hV,hr⟩:=run_un (P:=P) (Zh ht h1) h;exact Zcq (by unfold execOp;simp only [ho]) hV hr
 |convert s d x=>
  rw [ho] at h;obtain⟨V,hV,hr⟩:=Ztt hE ht h;exact Zcq (by unfold execOp;simp only [ho]) hV hr
 |makeFunc fn fs cs=>
  rw [ho] at h;cases fn with
  |func f=>
   simp only [pop,Zml] at h;obtain⟨l,h1,h⟩:=Zc h;obtain⟨m,h2,h⟩:=Zc h;injection h with h;subst h
   exact⟨.func (.func f) (fs.map a.eval) (cs.map a.eval),⟨fs.toList.map a.eval,cs.toList.map a.eval,by congr 1<;>(apply Array.ext';simp),Zh9 ht h1,Zh9 ht h2⟩,fun w=>by simp [execOp,ho,Instr.makeFunc]⟩
  |_=>simp [pop] at h
 |call c=>
  rw [ho] at h;simp only [pop,pCall] at h;split at h
  · rename_i hc
    obtain⟨ty,h1,h⟩:=Zc h;obtain⟨ti,h2,h⟩:=Zc h;obtain⟨x,h3,h⟩:=Zc h;obtain⟨d,hd1,hd2⟩:=(hE _ _ h2).und;rw [ZaZ] at h1 h3;have h1':c.argTypes[0]? =some ty:=by simpa using h1
    have h3':c.args[0]? =some x:=by simpa using h3
    have key:∃V,AR ρ v V∧∀w,(Builtin.len_ c.argTypes o.type (c.args.map a.eval)).run P w= .ok V w:=by
     split at h
     · rename_i l hk hx
       rw [hk] at hd2;cases d<;>first|exact hd2.elim|skip
       have hX:a.eval x= .string (Bs l):=Zh ht hx;injection h with h;subst h
       exact⟨_,rfl,fun w=>by simp [Builtin.len_,h1',h3',run_und hd1,hX,goInt,Zbs]⟩
     · rename_i n e u hk hx
       rw [hk] at hd2;cases d<;>first|exact hd2.elim|skip
       obtain⟨rfl,rfl⟩:=hd2;injection h with h;subst h
       exact⟨_,rfl,fun w=>by simp [Builtin.len_,h1',h3',run_und hd1,goInt]⟩
     · rename_i e hk hx
       rw [hk] at hd2;cases d<;>first|exact hd2.elim|skip
       have hX:a.eval x= .slice none 0 0:=Zh ht hx;injection h with h;subst h
       exact⟨_,rfl,fun w=>by simp [Builtin.len_,h1',h3',run_und hd1,hX,goInt]⟩
     · rename_i e id off len cut hk hx
       rw [hk] at hd2;cases d<;>first|exact hd2.elim|skip
       obtain⟨b,c',o',hb,hc',ho',hX⟩:AR ρ (.c (.sl id off len cut)) (a.eval x):=Zh ht hx;injection h with h;subst h
       exact⟨_,rfl,fun w=>by simp [Builtin.len_,h1',h3',run_und hd1,hX,goInt]⟩
     · cases h
    obtain⟨V,hV,hr⟩:=key;exact Zij .len c hc ho (fun _=>rfl) hV hr
  · rename_i hc
    split at h
    · rename_i x y hl
      split at h
      · rename_i k m k' n hx hy
        injection h with h;subst h
        have hX:a.eval x= .int k m:=Zh ht hx;have hY:a.eval y= .int k' n:=Zh ht hy;refine Zij .min c hc ho (s:=Builtin.min_ c.argTypes o.type (c.args.map a.eval)) (fun _=>rfl) rfl (fun w=> ?_);simp [Builtin.min_,hl,hX,hY,Builtin.min2]
      · cases h
    · cases h
  · rename_i hc
    split at h
    · rename_i x y hl
      split at h
      · rename_i k m k' n hx hy
        injection h with h;subst h
        have hX:a.eval x= .int k m:=Zh ht hx;have hY:a.eval y= .int k' n:=Zh ht hy;refine Zij .max c hc ho (s:=Builtin.max_ c.argTypes o.type (c.args.map a.eval)) (fun _=>rfl) rfl (fun w=> ?_);simp [Builtin.max_,hl,hX,hY,Builtin.max2]
      · cases h
    · cases h
  · cases h
 |_=>rw [ho] at h;simp [pop] at h
end
end Ev
end Go.Proofs.YtlfinljfghhpdaaGreatDoor
