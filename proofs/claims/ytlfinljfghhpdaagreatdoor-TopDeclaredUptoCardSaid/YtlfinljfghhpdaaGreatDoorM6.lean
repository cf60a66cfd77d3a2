/- Lemmas for a statement on the tops; conditions: as each says. -/
import Derived.Test.YtlfinljfghhpdaaGreatDoorM5
set_option linter.unusedVariables false
set_option linter.unusedSimpArgs false
set_option maxRecDepth 100000
set_option maxHeartbeats 200000
namespace Go.Proofs.YtlfinljfghhpdaaGreatDoor
open Go
namespace Ev
theorem Zc {α β:Type} {x:Option α} {f:α→Option β} {v:β} (h:opt x f=some v):∃y,x=some y∧f y=some v:=by
 cases x with
 |none=>simp [opt] at h
 |some y=>exact⟨y,rfl,h⟩
section
variable {P:Program} {E:Env} {ρ:Rho} {t:List AV} {a:Act} {o:Oper} {v:AV}
def Yld (P:Program)(ρ:Rho)(a:Act)(o:Oper)(v:AV):Prop:=∃V,AR ρ v V∧∀w,(execOp a.eval o).run P w= .ok (.value V) w
theorem Zcq {s:Sem Value} {V:Value} (hx:execOp a.eval o=(do let v←s;pure (.value v)))(hV:AR ρ v V)(hr:∀w,s.run P w= .ok V w):Yld P ρ a o v:=
 ⟨V,hV,fun w=>by rw [hx];simp [hr w]⟩
theorem TyOk.info {t:Nat} {ti:TI} (h:TyOk P t ti):∃info,P.info? t=some info∧info.size=ti.size∧info.bytes=ti.bytes:=by
 obtain⟨info,desc,z,h1,h2,h3,h4,_⟩:=h.ex;exact⟨info,h1,h3,h4⟩
theorem run_ti {t:Nat} {info:TypeInfo} (h:P.info? t=some info)(w:World):(typeInfo t).run P w= .ok info w:=by simp [typeInfo,h]
theorem run_und {t:Nat} {d:TypeDesc} (h:P.underlying t=some d)(w:World):(underlying t).run P w= .ok d w:=by simp [underlying,h]
theorem TyOk.sizeOf {t:Nat} {ti:TI} (h:TyOk P t ti)(w:World):(sizeOf t).run P w= .ok ti.size w:=by
 obtain⟨info,h1,h2,h3⟩:=h.info;simp [Go.sizeOf,run_ti h1,h2]
theorem TyOk.und {t:Nat} {ti:TI} (h:TyOk P t ti):∃d,P.underlying t=some d∧TKok P ti.k d:=by
 obtain⟨info,desc,z,h1,h2,h3,h4,h5,_⟩:=h.ex;exact⟨desc,h2,h5⟩
theorem TyOk.zero {t:Nat} {ti:TI} (h:TyOk P t ti):∃z,(∀w,(zeroValue t).run P w= .ok z w)∧(∀ρ,LR ρ ti.zero z.cells.toList)∧(ti.k.agg=true→∃m,z= .agg m)∧(ti.k.agg=false→∀m,z≠ .agg m):=by
 obtain⟨info,desc,z,h1,h2,h3,h4,h5,h6,h7,h8,h9⟩:=h.ex;exact⟨z,fun w=>by simp [zeroValue,run_ti h1,h6],h7,h8,h9⟩
theorem TyOk.isAgg {t:Nat} {ti:TI} (h:TyOk P t ti)(w:World):(isAgg t).run P w= .ok ti.k.agg w:=by
 obtain⟨d,h1,h2⟩:=h.und;rw [h2.agg];simp only [Go.isAgg,Sem.run_bind,run_und h1,Result.andThen_ok];cases d<;>rfl
theorem ZhV {ti:TI} {l:List Cl} {m:List Value} (h:mk ti l=some v)(hl:LR ρ l m):(ti.k.agg=true→AR ρ v (.agg m.toArray))∧(ti.k.agg=false→∃x,m=[x]∧AR ρ v x):=by
 unfold mk at h;split at h
 · rename_i ha
   injection h with h;subst h
   exact⟨fun _=>⟨m,rfl,hl⟩,fun hf=>by rw [ha] at hf;cases hf⟩
 · rename_i ha
   refine⟨fun ht=>absurd ht ha,fun _=> ?_⟩;split at h
   · injection h with h;subst h
     match m,hl with
     |[x],hl=>exact⟨x,rfl,hl.1⟩
   · cases h
theorem ZfV {e:Nat} {ti:TI} {l:List Cl} {m:List Value} {off:Nat} (ht:TyOk P e ti)(h:part ti l off=some v)(hl:LR ρ l m):∃V,AR ρ v V∧∀w,(Go.part e m.toArray off).run P w= .ok V w:=by
 unfold part at h;simp only at h;split at h
 · rename_i hlen
   have hl2:=(hl.drop off).take ti.size;obtain⟨m1,m2⟩:=ZhV h hl2;cases ha:ti.k.agg with
   |true=>
    refine⟨_,m1 ha,fun w=> ?_⟩;simp only [Go.part,Sem.run_bind,ht.isAgg,Result.andThen_ok,ha,if_true,ht.sizeOf,Sem.run_pure];congr 2
    apply Array.ext'
    simp [List.extract_eq_take_drop]
   |false=>
    obtain⟨x,h1,h2⟩:=m2 ha;refine⟨x,h2,fun w=> ?_⟩;simp only [Go.part,Sem.run_bind,ht.isAgg,Result.andThen_ok,ha];have hx:m[off]? =some x:=by
     have:((m.drop off).take ti.size)[0]? =some x:=by rw [h1];rfl
     rw [List.getElem?_take] at this;split at this
     · simpa using this
     · cases this
    simp [hx]
 · cases h
theorem Znf {l l' x:List Cl} {m y:List Value} {off:Nat} (h:ZeP l off x=some l')(hl:LR ρ l m)(hx:LR ρ x y):LR ρ l' (m.take off++(y++m.drop (off+y.length)))∧off+y.length≤m.length:=by
 unfold ZeP at h;split at h
 · rename_i hle
   injection h with h;subst h
   rw [←hx.len,←hl.len];exact⟨(hl.take off).app (hx.app (hl.drop _)),hle⟩
 · cases h
theorem Zk2:∀(y:List Value) (cs:Array Value) (off j0:Nat),off+j0+y.length≤cs.size→
 ((y.zipIdx j0).foldl (fun cs (c,j)=>cs.setIfInBounds (off+j) c) cs).toList=cs.toList.take (off+j0)++(y++cs.toList.drop (off+j0+y.length))
 |[],cs,off,j0,_=>by simp
 |x::y,cs,off,j0,h=>by
  simp only [List.length_cons] at h;rw [List.zipIdx_cons,List.foldl_cons,Zk2 y _ off (j0+1) (by simp;omega)];rw [Array.toList_setIfInBounds];have hlt:off+j0<cs.toList.length:=by simp;omega
  have h1:(cs.toList.set (off+j0) x).take (off+(j0+1))=cs.toList.take (off+j0)++[x]:=by
   rw [show off+(j0+1)=off+j0+1 from rfl,List.take_add_one,List.take_set_of_le (Nat.le_refl _),List.getElem?_set_self hlt];rfl
  have h2:(cs.toList.set (off+j0) x).drop (off+(j0+1)+y.length)=cs.toList.drop (off+j0+(y.length+1)):=by
   rw [List.drop_set_of_lt (by omega)];congr 1;omega
  rw [h1,h2];simp
theorem Zfu {pl:Nat→Option (Nat×Nat)} (ht:TR ρ t a):∀{ps:List (Nat×Operand)} {l l':List Cl} {m:Array Value},Zcc pl t l ps=some l'→LR ρ l m.toList→
 ∃m',Instr.fill pl m (ps.map fun p=>(p.1,a.eval p.2))=some m'∧LR ρ l' m'.toList
 |[],l,l',m,h,hl=>by
  simp only [Zcc,Option.some.injEq] at h;subst h;exact⟨m,rfl,hl⟩
 |(i,x)::r,l,l',m,h,hl=>by
  simp only [Zcc] at h;obtain⟨os,h1,h⟩:=Zc h;obtain⟨u,h2,h⟩:=Zc h;split at h
  · rename_i hc
    obtain⟨l1,h3,h⟩:=Zc h;have hu:=Zh ht h2;have hcs:=hu.cells hc.1;obtain⟨s1,s2⟩:=Znf h3 hl hcs;have hlen:(a.eval x).cells.size=os.2:=by rw [←hc.2,hcs.len,Array.length_toList]
    simp only [Array.length_toList] at s1 s2;have hf:=Zk2 (a.eval x).cells.toList m os.1 0 (by simpa using s2);obtain⟨m',e1,e2⟩:=Zfu ht (m:=((a.eval x).cells.zipIdx.foldl (fun cs (c,j)=>cs.setIfInBounds (os.1+j) c) m)) h (by
     rw [←Array.foldl_toList,Array.toList_zipIdx,hf];simpa using s1)
    refine⟨m',?_,e2⟩;simp only [List.map_cons,Instr.fill,h1];rw [if_neg]
    · exact e1
    · simp only [hlen,Bool.or_eq_true,decide_eq_true_eq,ne_eq,not_true,decide_false,Bool.false_eq_true,false_or];rw [←hlen];omega
  · cases h
end
end Ev
end Go.Proofs.YtlfinljfghhpdaaGreatDoor
