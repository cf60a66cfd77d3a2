/- Lemmas for a statement on the tops; conditions: as each says. -/
import Derived.Laws.BytesString
import Derived.Test.YtecandjkbbpooaaGreatDoorM7
set_option linter.unusedVariables false
set_option linter.unusedSimpArgs false
set_option maxRecDepth 100000
set_option maxHeartbeats 200000
namespace Go.Proofs.YtecandjkbbpooaaGreatDoor
open Go Go.RowKit
namespace Ev
section
variable {P:Program} {E:Env} {n0:Nat} {w0 w:World} {ρ:Rho} {nx fr:Nat} {h:Hp} {t:List AV} {a:Act} {o:Oper} {v:AV}
theorem ZlB:∀{l:List Cl} {r:List UInt8} {m:List Value},ofBytes l=some r→LR ρ l m→m=(r.map fun u=>(u.toNat:Int)).map (Value.int .u8)
 |[],r,m,h,hl=>by
  simp only [ofBytes,Option.some.injEq] at h;subst h
  match m,hl with
  |[],_=>rfl
 |c::l,r,m,h,hl=>by
  unfold ofBytes at h;split at h
  · rename_i heq;cases heq
  · rename_i n l' heq
    injection heq with e1 e2
    subst e1 e2;split at h
    · rename_i hn
      obtain⟨r',h1,h⟩:=Zb h;injection h with h;subst h
      match m,hl with
      |x::m,hl=>
       have e:=ZlB h1 hl.2;have e0:x= .int .u8 (Int.ofNat n):=hl.1;subst e0;rw [e];simp only [List.map_cons];congr 2
       simp;omega
    · cases h
  · cases h
theorem Zmj:∀(r acc:List UInt8),(r.map fun u=>(u.toNat:Int)).foldl (fun s n=>s.push (UInt8.ofNat n.toNat)) (Bs acc)=Bs (acc++r)
 |[],acc=>by simp
 |u::r,acc=>by
  simp only [List.map_cons,List.foldl_cons];have e:(Bs acc).push (UInt8.ofNat ((u.toNat:Int)).toNat)=Bs (acc++[u]):=by
   simp [Bs,ByteArray.push]
  rw [e,Zmj r (acc++[u])];simp
theorem Zj9:∀l:List UInt8,LR ρ (Zhr l) (l.map fun b=>Value.int .u8 b.toNat)
 |[]=>trivial
 |_::l=>⟨rfl,Zj9 l⟩
theorem Zs3 (e:TypeId)(l:List UInt8)(w:World):∃(rest:List Value) (w':World) (cap:Nat),(Conv.stringToBytes e (Bs l)).run P w= .ok (.slice (some ⟨w.heap.size,0,none⟩) l.length cap) w'∧l.length≤cap∧True∧
 w'.os=w.os∧w'.tape=w.tape∧w'.output=w.output∧w'.heap.size=w.heap.size+1∧(∀k,k<w.heap.size→w'.heap[k]? =w.heap[k]?)∧
 w'.heap[w.heap.size]? =some (.cells ((l.map fun b=>Value.int .u8 b.toNat)++rest).toArray e (cap,cap+1))∧((l.map fun b=>Value.int .u8 b.toNat)++rest).length=cap:=by
 obtain⟨cap,hcap⟩:∃cap,cap=(Question.appendCap (Bs l).size 0 e).cut (w.tape w.drawn (.appendCap (Bs l).size 0 e)):=⟨_,rfl⟩
 have hge:l.length≤cap:=by
  rw [hcap];simp [Question.cut,ZbM]
 obtain⟨rest,hrest⟩:∃rest,rest=List.replicate (cap - l.length) (Value.int .u8 0):=⟨_,rfl⟩
 have hlen:((l.map fun b=>Value.int .u8 b.toNat)++rest).length=cap:=by rw [hrest];simp;omega
 obtain⟨W1,hW1⟩:∃W1,W1=(({w with drawn:=w.drawn+1}:World).alloc (.cells ((l.map fun b=>Value.int .u8 b.toNat)++rest).toArray e)):=⟨_,rfl⟩
 have h1:W1.heap[w.heap.size]? =some (.cells ((l.map fun b=>Value.int .u8 b.toNat)++rest).toArray e (0,0)):=by
  rw [hW1];exact ZfT ({w with drawn:=w.drawn+1}:World) _
 have h2:∀k,k<w.heap.size→W1.heap[k]? =w.heap[k]?:=fun k hk=>by
  rw [hW1];exact alloc_old ({w with drawn:=w.drawn+1}:World) _ hk
 have h3:W1.heap.size=w.heap.size+1:=by rw [hW1];simp
 have hfz:∀k,(W1.freeze ⟨w.heap.size,cap,none⟩ 1).heap[k]? =if k=w.heap.size then some (.cells ((l.map fun b=>Value.int .u8 b.toNat)++rest).toArray e (cap,cap+1)) else W1.heap[k]?:=by
  intro k;unfold World.freeze;simp only [Nat.one_ne_zero,if_false,Array.getElem?_modify];by_cases hk:w.heap.size=k
  · subst hk;rw [if_pos rfl,if_pos rfl,h1];rfl
  · rw [if_neg hk,if_neg (fun e=>hk e.symm)]
 refine⟨rest,W1.freeze ⟨w.heap.size,cap,none⟩ 1,cap,?_,hge,trivial,?_,?_,?_,?_,?_,?_,hlen⟩
 · have hch:(choose (.appendCap (Bs l).size 0 e)).run P w= .ok cap {w with drawn:=w.drawn+1}:=by
    rw [hcap];simp [choose,Sem.run,Question.forced]
   have hsh:W1.shape? w.heap.size=some (e,cap):=by
    unfold World.shape?;rw [h1];simp only [List.size_toArray,hlen]
   have harr:((Bs l).data.map (fun b=>Value.int .u8 b.toNat)++Array.replicate (cap - (Bs l).size) (Value.int .u8 0))=((l.map fun b=>Value.int .u8 b.toNat)++rest).toArray:=by
    rw [hrest];apply Array.ext'
    simp [Bs,ByteArray.size]
   simp only [Conv.stringToBytes,Sem.run_bind,hch,Result.andThen_ok,harr,ZdZ];show((markStringish ⟨w.heap.size,0,none⟩).run P (({w with drawn:=w.drawn+1}:World).alloc _)).andThen _=_
   rw [←hW1];have hmark:(markStringish ⟨w.heap.size,0,none⟩).run P W1= .ok () (W1.freeze ⟨w.heap.size,cap,none⟩ 1):=by
    simp [markStringish,shape,freeze,Sem.run,hsh]
   rw [hmark];simp only [Result.andThen_ok,Sem.run_pure,ZbM]
 · unfold World.freeze;rw [hW1];rfl
 · unfold World.freeze;rw [hW1];rfl
 · unfold World.freeze;rw [hW1];rfl
 · unfold World.freeze;simp only [Nat.one_ne_zero,if_false,Array.size_modify];exact h3
 · intro k hk;rw [hfz,if_neg (by omega),h2 k hk]
 · rw [hfz,if_pos rfl]
theorem Zqm (hE:∀t ti,E.ty t=some ti→TyOk P t ti)(hG:GOk E n0 w0)(ht:TR ρ t a)(hI:IV n0 w0 ρ nx h w)(hf:fr<nx)(hn:ρ fr=none){s d:Nat} {x:Operand} (ho:o.op= .convert s d x){h':Hp} (hh:eff E fr t h o.op=some (v,h')):
 ZaH P n0 w0 ρ nx fr a o v h' w:=by
 rw [ho] at hh;simp only [eff,ZkA] at hh;obtain⟨ts,h1,hh⟩:=Zb hh;obtain⟨td,h2,hh⟩:=Zb hh;obtain⟨ds,hs1,hs2⟩:=(hE _ _ h1).und;obtain⟨dd,hd1,hd2⟩:=(hE _ _ h2).und;have hexec:execOp a.eval o=(do let v←convert s d (a.eval x);pure (.value v)):=by
  unfold execOp;simp only [ho]
 split at hh
 · rename_i e e1 e2 hx
   rw [e1] at hs2;rw [e2] at hd2;cases ds<;>first|exact hs2.elim|skip
   cases dd<;>first|exact hd2.elim|skip
   have hs3:e=_:=hs2;subst hs3;have hX:a.eval x= .slice none 0 0:=Zj ht hx;obtain⟨te,h3,hh⟩:=Zb hh;obtain⟨de,he1,he2⟩:=(hE _ _ h3).und;split at hh
   · rename_i hk
     rw [hk] at he2;cases de<;>first|exact he2.elim|skip
     have he3:IntKind.u8=_:=he2;subst he3;simp only [Option.some.injEq,Prod.mk.injEq] at hh;obtain⟨rfl,rfl⟩:=hh;exact Zce hexec rfl (by simp [convert,Zn hs1,Zn hd1,Zn he1,hX,Conv.bytesToString,Bs];rfl) hI
   · cases hh
 · rename_i e i off len cut e1 e2 hx
   rw [e1] at hs2;rw [e2] at hd2;cases ds<;>first|exact hs2.elim|skip
   cases dd<;>first|exact hd2.elim|skip
   have hs3:e=_:=hs2;subst hs3;obtain⟨b,cc,o',hb,hcc,ho',hX⟩:AR ρ (.c (.sl i off len cut)) (a.eval x):=Zj ht hx;obtain⟨te,h3,hh⟩:=Zb hh;obtain⟨de,he1,he2⟩:=(hE _ _ h3).und;split at hh
   · rename_i hk hsz
     rw [hk] at he2;cases de<;>first|exact he2.elim|skip
     have he3:IntKind.u8=_:=he2;subst he3;obtain⟨l,h4,hh⟩:=Zb hh;obtain⟨r,h5,hh⟩:=Zb hh;simp only [Option.some.injEq,Prod.mk.injEq] at hh;obtain⟨rfl,rfl⟩:=hh;obtain⟨b2,o2,m,e2,hml,hl,hcell⟩:=ZdM (x:= .c (.p i off)) (X:= .pointer (some ⟨b,off,none⟩)) hG hI ⟨b,cc,hb,rfl⟩ h4;injection e2 with e2
     injection e2 with e2
     injection e2 with e2 e3
     subst e2 e3;have hm:=ZlB h5 hl;have hload:(loadCells ⟨b,o',none⟩ len).run P w= .ok ((r.map fun u=>(u.toNat:Int)).map (Value.int .u8)).toArray w:=by
      by_cases hz:len=0
      · subst hz;have:m=[]:=List.eq_nil_of_length_eq_zero hml;rw [this] at hm;rw [←hm];rfl
      · rw [ho' (.inl hz),←hm,←hml];exact Zmu b off m w hcell
     have hr:=run_bytesToString w ⟨b,o',none⟩ len (cc - cut) (r.map fun u=>(u.toNat:Int)) hload;have hp:=Zmj r [];rw [List.nil_append] at hp;have he:ByteArray.empty=Bs []:=rfl;rw [he,hp] at hr;refine Zce hexec rfl ?_ hI;simp only [convert,Sem.run_bind,Zn hs1,Zn hd1,Result.andThen_ok,hX,Zn he1];exact hr
   · cases hh
 · rename_i e l e1 e2 hx
   rw [e1] at hs2;rw [e2] at hd2;cases ds<;>first|exact hs2.elim|skip
   cases dd<;>first|exact hd2.elim|skip
   have hd3:e=_:=hd2;subst hd3;have hX:a.eval x= .string (Bs l):=Zj ht hx;obtain⟨te,h3,hh⟩:=Zb hh;obtain⟨de,he1,he2⟩:=(hE _ _ h3).und;split at hh
   · rename_i hk hsz
     rw [hk] at he2;cases de<;>first|exact he2.elim|skip
     have he3:IntKind.u8=_:=he2;subst he3;split at hh
     · rename_i hlen
       simp only [Option.some.injEq,Prod.mk.injEq] at hh;obtain⟨rfl,rfl⟩:=hh;obtain⟨arr,w',cap,r1,r2,r3,r4,r5,r6,r7,r8,r9,r10⟩:=Zs3 (P:=P) e l w;have hle:=Rho.put_le (x:=(w.heap.size,cap)) hn;refine ZcR (ρ':=ρ.put fr (w.heap.size,cap)) (w':=w') hexec ⟨w.heap.size,cap,0,Rho.put_self,by omega,fun _=>rfl,rfl⟩ ?_
        (hI.grow (b0:=w.heap.size) hf hn (fun y hy=>hy) r4 r5 r6 (by omega) hI.size hI.size (by omega) (fun k hk _ _=>r8 k hk) (fun y hy b c' hb=>by have:=(hI.rng _ _ _ hb).2;omega)
         ⟨l.map fun b=>Value.int .u8 b.toNat,arr,_,r9,Zj9 l,by simp,by rw [r10];omega,fun j hj hh=>by simp only [r10] at hj hh;omega,by simp,by simp⟩) hle (fun j hj=>Rho.put_ne hj)
       simp only [convert,Sem.run_bind,Zn hs1,Zn hd1,Result.andThen_ok,hX,Zn he1];exact r1
     · cases hh
   · cases hh
 · cases hh
end
end Ev
namespace Ev
def Zdb (P:Program)(t:Nat)(ti:TI):Prop:=∀(l:List Cl) (L:List Value) (ρ:Rho) (em:Bool),shp ti.zero l=true→LR ρ l L→∀w,(Instr.checkKey em 10000 t (.agg L.toArray)).run P w= .ok () w
section
variable {P:Program} {E:Env} {n0:Nat} {w0 w:World} {ρ:Rho} {nx fr:Nat} {h:Hp} {t:List AV} {a:Act} {o:Oper} {v:AV}
theorem AR.a0 {u:AV} {z:A0} {V:Value} (h:AR ρ u V)(hz:u.a0=some z):A0R ρ z V:=by
 cases u with
 |c x=>simp only [AV.a0,Option.some.injEq] at hz;subst hz;exact h
 |a l=>simp only [AV.a0,Option.some.injEq] at hz;subst hz;exact h
 |t l=>simp [AV.a0] at hz
theorem Zht {kt:Nat} {tk:TI} (hT:TyOk P kt tk){q:Bool} (hK:q=true→Zdb P kt tk){k:A0} {K:Value} (hk:A0R ρ k K)(hl:Zat tk q k=true)(em:Bool)(w:World):(Instr.checkKey em 10000 kt K).run P w= .ok () w:=by
 obtain⟨d,hd1,hd2⟩:=hT.und;have key:∀(n:Nat) (X:Value),(∀t v,X≠ .iface t v)→X≠ .nilIface→(∀c,X≠ .agg c)→(match d with| .int _| .string=>True|_=>False)→(Instr.checkKey em (n+1) kt X).run P w= .ok () w:=by
  intro n X h1 h2 h3 hd;cases d<;>first|exact hd.elim|skip
  all_goals
   unfold Instr.checkKey;simp only [Sem.run_bind,Zn hd1,Result.andThen_ok];rfl
 unfold Zat at hl;split at hl
 · rename_i kk kj n hk1
   rw [hk1] at hd2;cases d<;>first|exact hd2.elim|skip
   have e:K= .int kj n:=hk;subst e;exact key 9999 _ (by simp) (by simp) (by simp) trivial
 · rename_i n e l hk1
   simp only [Bool.and_eq_true] at hl;obtain⟨m,rfl,hm⟩:=hk;exact hK hl.1 l m ρ em hl.2 hm w
 · cases hl
def Pr (ρ:Rho)(k:A0)(K:Value)(es:List (A0×A0))(L:List MapEntry)(i:Nat)(r:Option (Nat×Value)):Prop:=
 match ZbQ k es with
 |none=>r=none∧∀vc V n,A0R ρ vc V→PW (MR ρ) (Zc4 k vc es) (L++[{key:=K,val:=V,born:=n}])
 |some x=>∃j V,r=some (i+j,V)∧A0R ρ x V∧(∃e:MapEntry,L[j]? =some e∧A0R ρ k e.key)∧∀vc W,A0R ρ vc W→PW (MR ρ) (Zc4 k vc es) (L.modify j fun e=>{e with key:=K,val:=W})
theorem Pr.nil {k:A0} {K:Value} (hk:A0R ρ k K)(i:Nat):Pr ρ k K [] [] i none:=by
 unfold Pr;exact⟨rfl,fun vc V n hv=>⟨⟨hk,hv⟩,trivial⟩⟩
theorem Pr.hit {k:A0} {K:Value} (hk:A0R ρ k K){e:A0×A0} {m:MapEntry} {es:List (A0×A0)} {L:List MapEntry} (he:e.1=k)(hm:MR ρ e m)(hl:PW (MR ρ) es L)(i:Nat):Pr ρ k K (e::es) (m::L) i (some (i,m.val)):=by
 unfold Pr;simp only [ZbQ,if_pos he];refine⟨0,m.val,rfl,hm.2,⟨m,rfl,by rw [←he];exact hm.1⟩,fun vc W hv=> ?_⟩;simp only [Zc4,if_pos he];exact⟨⟨hk,hv⟩,hl⟩
theorem Pr.miss {k:A0} {K:Value} {e:A0×A0} {m:MapEntry} {es:List (A0×A0)} {L:List MapEntry} {r:Option (Nat×Value)} (he:e.1≠k)(hm:MR ρ e m){i:Nat} (h:Pr ρ k K es L (i+1) r):Pr ρ k K (e::es) (m::L) i r:=by
 unfold Pr at*;simp only [ZbQ,if_neg he];cases hf:ZbQ k es with
 |none=>
  rw [hf] at h;exact⟨h.1,fun vc V n hv=>by simp only [Zc4,if_neg he];exact⟨hm,h.2 vc V n hv⟩⟩
 |some x=>
  rw [hf] at h;obtain⟨j,V,h1,h2,⟨e',h3,h3'⟩,h4⟩:=h;refine⟨j+1,V,by rw [h1];congr 2;omega,h2,⟨e',by simpa using h3,h3'⟩,fun vc W hv=> ?_⟩;simp only [Zc4,if_neg he,List.modify_succ_cons];exact⟨hm,h4 vc W hv⟩
theorem ZkR {d:TypeDesc} {k:A0} {K:Value} (hk:A0R ρ k K)(q:A0→Prop)(hsame:∀e m,A0R ρ e m→q e→Instr.sameNow d K m=some (decide (e=k))):
 ∀(es:List (A0×A0)) (L:List MapEntry) (i:Nat),PW (MR ρ) es L→(∀e∈es,q e.1)→∃r,Instr.findNow d K L i=some r∧Pr ρ k K es L i r
 |[],[],i,_,_=>⟨none,rfl,Pr.nil hk i⟩
 |e::es,m::L,i,hl,hq=>by
  have hs:=hsame e.1 m.key hl.1.1 (hq e (by simp));obtain⟨r,r1,r2⟩:=ZkR hk q hsame es L (i+1) hl.2 (fun e he=>hq e (by simp [he]));by_cases hek:e.1=k
  · refine⟨_,?_,Pr.hit hk hek hl.1 hl.2 i⟩;simp only [Instr.findNow,hs,hek,decide_true]
  · refine⟨r,?_,Pr.miss hek hl.1 r2⟩;simp only [Instr.findNow,hs,hek,decide_false];exact r1
 |[],_::_,_,h,_=>h.elim
 |_::_,[],_,h,_=>h.elim
theorem ZkQ {kt:Nat} {k:A0} {K:Value} (hk:A0R ρ k K)(q:A0→Prop)(hsame:∀e m,A0R ρ e m→q e→∀w,(Op.equal kt K m).run P w= .ok (decide (e=k)) w):
 ∀(es:List (A0×A0)) (L:List MapEntry) (i:Nat),PW (MR ρ) es L→(∀e∈es,q e.1)→∃r,(∀w,(Instr.findAsking kt K L i).run P w= .ok r w)∧Pr ρ k K es L i r
 |[],[],i,_,_=>⟨none,fun w=>rfl,Pr.nil hk i⟩
 |e::es,m::L,i,hl,hq=>by
  have hs:=hsame e.1 m.key hl.1.1 (hq e (by simp));obtain⟨r,r1,r2⟩:=ZkQ hk q hsame es L (i+1) hl.2 (fun e he=>hq e (by simp [he]));by_cases hek:e.1=k
  · refine⟨_,fun w=> ?_,Pr.hit hk hek hl.1 hl.2 i⟩;simp only [Instr.findAsking,Sem.run_bind,hs,Result.andThen_ok,hek,decide_true,if_true,Sem.run_pure]
  · refine⟨r,fun w=> ?_,Pr.miss hek hl.1 r2⟩;simp only [Instr.findAsking,Sem.run_bind,hs,Result.andThen_ok,hek,decide_false,Bool.false_eq_true,if_false];exact r1 w
 |[],_::_,_,h,_=>h.elim
 |_::_,[],_,h,_=>h.elim
theorem ZkS {kt:Nat} {tk:TI} (hT:TyOk P kt tk){q:Bool} (hQ:q=true→ZcL P kt tk){k:A0} {K:Value} (hk:A0R ρ k K)(hl:Zat tk q k=true)
 (es:List (A0×A0)) (L:List MapEntry) (hL:PW (MR ρ) es L) (hall:(es.all fun e=>Zat tk q e.1)=true):
 ∃r,(∀w,(Instr.findKey kt K L).run P w= .ok r w)∧Pr ρ k K es L 0 r:=by
 obtain⟨d,hd1,hd2⟩:=hT.und;have hq:∀e∈es,Zat tk q e.1=true:=List.all_eq_true.1 hall;have scal:(∀e m,A0R ρ e m→Zat tk q e=true→Instr.sameNow d K m=some (decide (e=k)))→∃r,(∀w,(Instr.findKey kt K L).run P w= .ok r w)∧Pr ρ k K es L 0 r:=by
  intro hs;obtain⟨r,r1,r2⟩:=ZkR hk (fun e=>Zat tk q e=true) hs es L 0 hL hq;exact⟨r,fun w=>by simp only [Instr.findKey,Sem.run_bind,Zn hd1,Result.andThen_ok,r1,Sem.run_pure],r2⟩
 cases hkk:tk.k<;>rw [hkk] at hd2<;>first|(unfold Zat at hl;rw [hkk] at hl;simp at hl;done)|skip
 · rename_i kk
   cases d<;>first|exact hd2.elim|skip
   have hd3:kk=_:=hd2;subst hd3;have form:∀e,Zat tk q e=true→∃n,e= .c (.i kk n):=by
    intro e he;cases e with
    |c x=>
     cases x<;>simp [Zat,hkk] at he
     rename_i kj n
     exact⟨n,by rw [he]⟩
    |a l=>simp [Zat,hkk] at he
   obtain⟨n,rfl⟩:=form k hl;refine scal fun e m hem he=> ?_;obtain⟨n',rfl⟩:=form e he;have e1:K= .int kk n:=hk;have e2:m= .int kk n':=hem;subst e1 e2;simp only [Instr.sameNow,if_true];congr 1
   by_cases hnn:n=n'
   · subst hnn;simp
   · have:¬n'=n:=fun e=>hnn e.symm;simp [hnn,this]
 · rename_i n e
   cases d<;>first|exact hd2.elim|skip
   have form:∀e,Zat tk q e=true→q=true∧∃l,e= .a l∧shp tk.zero l=true:=by
    intro e he;cases e with
    |c x=>cases x<;>simp [Zat,hkk] at he
    |a l=>
     simp [Zat,hkk] at he;exact⟨he.1,l,rfl,he.2⟩
   obtain⟨hqt,l,rfl,hshp⟩:=form k hl;obtain⟨M,rfl,hM⟩:=hk;have hk':A0R ρ (.a l) (.agg M.toArray):=⟨M,rfl,hM⟩
   match es,L,hL,hq with
   |[],[],hL,hq=>exact⟨none,fun w=>by simp only [Instr.findKey,Sem.run_bind,Zn hd1,Result.andThen_ok,Instr.findNow,Sem.run_pure],Pr.nil hk' 0⟩
   |e0::es,m0::L,hL,hq=>
    obtain⟨r,r1,r2⟩:=ZkQ (P:=P) (kt:=kt) hk' (fun e=>Zat tk q e=true) (fun e m hem he w=>by
     obtain⟨_,l',rfl,hs'⟩:=form e he;obtain⟨M',rfl,hM'⟩:=hem;have:=((hQ hqt) l l' M M' ρ hshp hs' hM hM').1 w;rw [this];congr 1
     by_cases hll:l=l'
     · subst hll;simp
     · have h2:¬l'=l:=fun e=>hll e.symm;simp [hll,h2]) (e0::es) (m0::L) 0 hL hq
    refine⟨r,fun w=> ?_,r2⟩;have hnone:∀i,Instr.findNow (.array n e) (.agg M.toArray) (m0::L) i=none:=fun i=>by simp [Instr.findNow,Instr.sameNow]
    obtain⟨rfl,rfl⟩:=hd2;simp only [Instr.findKey,Sem.run_bind,Zn hd1,Result.andThen_ok,hnone];exact r1 w
   |[],_::_,h,_=>exact h.elim
   |_::_,[],h,_=>exact h.elim
end
end Ev
namespace Ev
section
variable {P:Program} {E:Env} {n0:Nat} {w0 w:World} {ρ:Rho} {nx fr:Nat} {h:Hp} {t:List AV} {a:Act} {o:Oper} {v:AV}
theorem bs_beq (x:List UInt8):(Bs x==Bs x)=true:=by
 show((Bs x).data==(Bs x).data)=true
 simp
theorem Zkg {kt:Nat} {tk:TI} (hT:TyOk P kt tk){q:Bool} (hK:q=true→Zdb P kt tk∨∀n e,tk.k≠ .ar n e){k:A0} {K:Value} (hk:A0R ρ k K)(hl:Zat tk q k=true)(em:Bool)(w:World):(Instr.checkKey em 10000 kt K).run P w= .ok () w:=by
 by_cases hqq:q=true
 · rcases hK hqq with h|h
   · exact Zht hT (fun _=>h) hk hl em w
   · have hl2:Zat tk false k=true:=by
      unfold Zat at*;split at hl
      · exact hl
      · rename_i n e l hkk;exact absurd hkk (h n e)
      · cases hl
     exact Zht hT (fun h=>by cases h) hk hl2 em w
 · exact Zht hT (fun h=>absurd h hqq) hk hl em w
theorem ZgF:∀{z l:List Cl} {m m':List Value},shp z l=true→LR ρ l m→LR ρ l m'→m=m'∧∀n:Nat,((m.zip m).all fun x=>Instr.sameBits n x.1 x.2)=true
 |[],[],[],[],_,_,_=>⟨rfl,fun _=>rfl⟩
 | .b _::z,.b x::l,y::m,y'::m',hs,h,h'=>by
  obtain⟨e1,e2⟩:=ZgF (z:=z) (by simpa [shp] using hs) h.2 h'.2;have f1:y= .bool x:=h.1;have f2:y'= .bool x:=h'.1;subst f1 f2 e1;exact⟨rfl,fun n=>by simp only [List.zip_cons_cons,List.all_cons,e2,Bool.and_true];cases n<;>simp [Instr.sameBits]⟩
 | .i _ _::z,.i k x::l,y::m,y'::m',hs,h,h'=>by
  obtain⟨e1,e2⟩:=ZgF (z:=z) (by simp [shp] at hs;exact hs.2) h.2 h'.2;have f1:y= .int k x:=h.1;have f2:y'= .int k x:=h'.1;subst f1 f2 e1;exact⟨rfl,fun n=>by simp only [List.zip_cons_cons,List.all_cons,e2,Bool.and_true];cases n<;>simp [Instr.sameBits]⟩
 | .s _::z,.s x::l,y::m,y'::m',hs,h,h'=>by
  obtain⟨e1,e2⟩:=ZgF (z:=z) (by simpa [shp] using hs) h.2 h'.2;have f1:y= .string (Bs x):=h.1;have f2:y'= .string (Bs x):=h'.1;subst f1 f2 e1;exact⟨rfl,fun n=>by simp only [List.zip_cons_cons,List.all_cons,e2,Bool.and_true];cases n<;>exact bs_beq x⟩
 |[],[],_::_,_,_,h,_=>h.elim
 |[],[],[],_::_,_,_,h=>h.elim
 |[],_::_,_,_,hs,_,_=>by simp [shp] at hs
 |_::_,[],_,_,hs,_,_=>by simp [shp] at hs
 |_,_::_,[],_,_,h,_=>h.elim
 |_,_::_,_::_,[],_,_,h=>h.elim
theorem A0R.same {tk:TI} {q:Bool} {k:A0} {K K':Value} (hl:Zat tk q k=true)(h:A0R ρ k K)(h':A0R ρ k K'):K=K'∧Instr.sameBits 10000 K K'=true:=by
 unfold Zat at hl;split at hl
 · rename_i kk kj n hk
   have e1:K= .int kj n:=h;have e2:K'= .int kj n:=h';subst e1 e2;exact⟨rfl,by simp [Instr.sameBits]⟩
 · rename_i n e l hk
   simp only [Bool.and_eq_true] at hl;obtain⟨m,rfl,hm⟩:=h;obtain⟨m',rfl,hm'⟩:=h';obtain⟨e1,e2⟩:=ZgF hl.2 hm hm';subst e1;have key:∀d,Instr.sameBits (d+1) (.agg m.toArray) (.agg m.toArray)=true:=fun d=>by
    simp only [Instr.sameBits,beq_self_eq_true,Bool.true_and];exact e2 d
   exact⟨rfl,key 9999⟩
 · cases hl
theorem mk_zero {te:TI} {e:Nat} (hT:TyOk P e te){zv:AV} (hm:mk te te.zero=some zv):∃z,(∀w,(zeroValue e).run P w= .ok z w)∧AR ρ zv z:=by
 obtain⟨z,z1,z2,z3,z4⟩:=hT.zero;obtain⟨m1,m2⟩:=Zh3 hm (z2 ρ);refine⟨z,z1,?_⟩;cases ha:te.k.agg with
 |true=>
  obtain⟨m,rfl⟩:=z3 ha;have:=m1 ha;simpa [Value.cells] using this
 |false=>
  obtain⟨x,h1,h2⟩:=m2 ha;have hz:=z4 ha;have:z.cells=#[z]:=by cases z<;>first|rfl|exact absurd rfl (hz _)
  rw [this] at h1;simp at h1;rw [h1];exact h2
theorem Zgm {b:Nat} {L:List MapEntry} {ck:Nat} (h:w.heap[b]? =some (.map L.toArray ck)):(getObj b).run P w= .ok (.map L.toArray ck) w:=by
 simp only [getObj,Sem.run,h]
theorem map_set {b:Nat} {L:List MapEntry} {ck:Nat} (h:w.heap[b]? =some (.map L.toArray ck))(ob:Obj):(setObj b ob).run P w= .ok () {w with heap:=w.heap.setIfInBounds b ob}:=by
 simp only [setObj,Sem.run,h]
theorem Zqo (hE:∀t ti,E.ty t=some ti→TyOk P t ti)(hq:∀t ti,E.eqt t=true→E.ty t=some ti→ZcL P t ti∧(∀n e,ti.k= .ar n e→Zdb P t ti))(ht:TR ρ t a)(hI:IV n0 w0 ρ nx h w){ty:Nat} {x k:Operand} {ok:Bool} (ho:o.op= .lookup ty x k ok){h':Hp} (hh:eff E fr t h o.op=some (v,h')):
 ZaH P n0 w0 ρ nx fr a o v h' w:=by
 rw [ho] at hh;simp only [eff,ZkB] at hh;obtain⟨ti,h1,hh⟩:=Zb hh;obtain⟨d,hd1,hd2⟩:=(hE _ _ h1).und;split at hh
 case h_2=>cases hh
 rename_i kt e i hk hx
 rw [hk] at hd2;cases d<;>first|exact hd2.elim|skip
 obtain⟨tk,h2,hh⟩:=Zb hh;obtain⟨te,h3,hh⟩:=Zb hh;obtain⟨kv,h4,hh⟩:=Zb hh;obtain⟨kc,h5,hh⟩:=Zb hh;obtain⟨zv,h6,hh⟩:=Zb hh;obtain⟨z,h7,hh⟩:=Zb hh;split at hh
 case h_2=>cases hh
 rename_i es hlk
 split at hh
 case isFalse=>cases hh
 rename_i hs
 simp only [Option.some.injEq,Prod.mk.injEq] at hh;obtain⟨rfl,rfl⟩:=hh;obtain⟨rfl,rfl⟩:=hd2;obtain⟨b,c,q1,L,ck,q2,q3⟩:=hI.ob _ (Zbe hlk);obtain⟨b',c',q4,hX⟩:∃b c,ρ i=some (b,c)∧a.eval x= .map (some b):=Zj ht hx;simp only at q1;rw [q1] at q4;injection q4 with q4
 injection q4 with q4 q5
 subst q4;have hK:=AR.a0 (Zj ht h4) h5;unfold ZgD at hs;simp only [Bool.and_eq_true] at hs;have hkt:∀(hqq:E.eqt kt=true),Zdb P kt tk∨∀n e,tk.k≠ .ar n e:=fun hqq=>by
  by_cases har:∃n e,tk.k= .ar n e
  · obtain⟨n,e,har⟩:=har;exact .inl ((hq _ _ hqq h2).2 n e har)
  · exact .inr fun n e h=>har ⟨n,e,h⟩
 have hck:=fun(em:Bool) w=>Zkg (P:=P) (hE _ _ h2) hkt hK hs.1 em w;obtain⟨r,r1,r2⟩:=ZkS (hE _ _ h2) (fun hqq=>(hq _ _ hqq h2).1) hK hs.1 es L q3 hs.2;obtain⟨zV,z1,z2⟩:=mk_zero (ρ:=ρ) (hE _ _ h3) h6;have hz:=AR.a0 z2 h7;have hrun:∃V,A0R ρ ((ZbQ kc es).getD z) V∧(Instr.lookup ty (a.eval x) (a.eval k) ok).run P w= .ok (if ok then .tuple #[V,.bool (ZbQ kc es).isSome] else V) w:=by
  unfold Pr at r2;cases hf:ZbQ kc es with
  |none=>
   rw [hf] at r2;refine⟨zV,hz,?_⟩;simp only [Instr.lookup,Sem.run_bind,Zn hd1,Result.andThen_ok,hX,Zgm q2,Sem.run_pure,hck,r1,r2.1,z1];rfl
  |some y=>
   rw [hf] at r2;obtain⟨j,V,s1,s2,_⟩:=r2;refine⟨V,s2,?_⟩;simp only [Instr.lookup,Sem.run_bind,Zn hd1,Result.andThen_ok,hX,Zgm q2,Sem.run_pure,hck,r1,s1];rfl
 obtain⟨V,hV,hr⟩:=hrun;have hexec:execOp a.eval o=(do let v←Instr.lookup ty (a.eval x) (a.eval k) ok;pure (.value v)):=by
  unfold execOp;simp only [ho]
 cases ok with
 |true=>exact Zce hexec ⟨[V,.bool (ZbQ kc es).isSome],rfl,hV,rfl,trivial⟩ hr hI
 |false=>exact Zce hexec hV.av hr hI
theorem Zqr (hE:∀t ti,E.ty t=some ti→TyOk P t ti)(hq:∀t ti,E.eqt t=true→E.ty t=some ti→ZcL P t ti∧(∀n e,ti.k= .ar n e→Zdb P t ti))(ht:TR ρ t a)(hI:IV n0 w0 ρ nx h w){ty:Nat} {x k y:Operand} (ho:o.op= .mapUpdate ty x k y){h':Hp} (hh:eff E fr t h o.op=some (v,h')):
 ZaH P n0 w0 ρ nx fr a o v h' w:=by
 rw [ho] at hh;simp only [eff,ZkE] at hh;obtain⟨ti,h1,hh⟩:=Zb hh;obtain⟨d,hd1,hd2⟩:=(hE _ _ h1).und;split at hh
 case h_2=>cases hh
 rename_i kt e i hk hx
 rw [hk] at hd2;cases d<;>first|exact hd2.elim|skip
 obtain⟨tk,h2,hh⟩:=Zb hh;obtain⟨kv,h4,hh⟩:=Zb hh;obtain⟨kc,h5,hh⟩:=Zb hh;obtain⟨vv,h6,hh⟩:=Zb hh;obtain⟨vc,h7,hh⟩:=Zb hh;split at hh
 case h_2=>cases hh
 rename_i es hlk
 split at hh
 case isFalse=>cases hh
 rename_i hs
 simp only [Option.some.injEq,Prod.mk.injEq] at hh;obtain⟨rfl,rfl⟩:=hh;obtain⟨rfl,rfl⟩:=hd2;obtain⟨b,c,q1,L,ck,q2,q3⟩:=hI.ob _ (Zbe hlk);obtain⟨b',c',q4,hX⟩:∃b c,ρ i=some (b,c)∧a.eval x= .map (some b):=Zj ht hx;simp only at q1;rw [q1] at q4;injection q4 with q4
 injection q4 with q4 q5
 subst q4;have hK:=AR.a0 (Zj ht h4) h5;have hV:=AR.a0 (Zj ht h6) h7;unfold ZgD at hs;simp only [Bool.and_eq_true] at hs;have hkt:∀(hqq:E.eqt kt=true),Zdb P kt tk∨∀n e,tk.k≠ .ar n e:=fun hqq=>by
  by_cases har:∃n e,tk.k= .ar n e
  · obtain⟨n,e,har⟩:=har;exact .inl ((hq _ _ hqq h2).2 n e har)
  · exact .inr fun n e h=>har ⟨n,e,h⟩
 have hck:=fun(em:Bool) w=>Zkg (P:=P) (hE _ _ h2) hkt hK hs.1 em w;obtain⟨r,r1,r2⟩:=ZkS (hE _ _ h2) (fun hqq=>(hq _ _ hqq h2).1) hK hs.1 es L q3 hs.2;have hrun:∃(L':List MapEntry) (ck':Nat),PW (MR ρ) (Zc4 kc vc es) L'∧(Instr.mapUpdate ty (a.eval x) (a.eval k) (a.eval y)).run P w= .ok () {w with heap:=w.heap.setIfInBounds b (.map L'.toArray ck')}:=by
  unfold Pr at r2;cases hf:ZbQ kc es with
  |none=>
   rw [hf] at r2;refine⟨_,ck+1,r2.2 vc (a.eval y) ck hV,?_⟩;simp only [Instr.mapUpdate,Sem.run_bind,Zn hd1,Result.andThen_ok,hX,Zgm q2,hck,r1,r2.1,map_set q2];congr 4
   apply Array.ext'
   simp
  |some u=>
   rw [hf] at r2;obtain⟨j,V,s1,s2,⟨e',s3,s3'⟩,s4⟩:=r2;obtain⟨k1,k2⟩:=A0R.same hs.1 s3' hK;refine⟨_,ck,s4 vc (a.eval y) hV,?_⟩;rw [Nat.zero_add] at s1;have hkeep:(Instr.keyThatStays (((L.toArray[j]?).map (·.key)).getD (a.eval k)) (a.eval k)).run P w= .ok (a.eval k) w:=by
    have:((L.toArray[j]?).map (·.key)).getD (a.eval k)=e'.key:=by simp [s3]
    rw [this];simp [Instr.keyThatStays,k2]
   simp only [Instr.mapUpdate,Sem.run_bind,Zn hd1,Result.andThen_ok,hX,Zgm q2,hck,r1,s1,hkeep,map_set q2];congr 4
   apply Array.ext'
   simp
 obtain⟨L',ck',p1,p2⟩:=hrun;refine⟨ρ,{w with heap:=w.heap.setIfInBounds b (.map L'.toArray ck')},undef,ZeK ρ,.inr ⟨rfl,?_⟩,
  hI.turn (x:= .mp (Zc4 kc vc es)) q1 ⟨_,Zbe hlk⟩ rfl rfl rfl (by simp) (fun k hk=>by simp only [Array.getElem?_setIfInBounds];rw [if_neg (fun e=>hk e.symm)]) ⟨L',ck',?_,p1⟩,ρ.le_refl,fun _ _=>rfl⟩
 · unfold execOp;simp only [ho,Sem.run_bind,p2,Result.andThen_ok,Sem.run_pure]
 · show(w.heap.setIfInBounds b _)[b]? =_
   have hb:=(Array.getElem?_eq_some_iff.1 q2).1;simp [hb]
theorem Zqu (hE:∀t ti,E.ty t=some ti→TyOk P t ti)(ht:TR ρ t a)(hI:IV n0 w0 ρ nx h w){ty:Nat} {x:Operand} {lo hi mx:Option Operand} (ho:o.op= .slice ty x lo hi mx){h':Hp} (hh:eff E fr t h o.op=some (v,h')):
 ZaH P n0 w0 ρ nx fr a o v h' w:=by
 rw [ho] at hh;cases mx with
 |some q=>simp [eff] at hh
 |none=>
 simp only [eff,ZkG] at hh;obtain⟨ti,h1,hh⟩:=Zb hh;obtain⟨d,hd1,hd2⟩:=(hE _ _ h1).und;split at hh
 case h_2=>cases hh
 rename_i n e i off hk hx
 rw [hk] at hd2;cases d<;>first|exact hd2.elim|skip
 obtain⟨te,h2,hh⟩:=Zb hh;obtain⟨p,h3,hh⟩:=Zb hh;obtain⟨q,h4,hh⟩:=Zb hh;split at hh
 case h_2=>cases hh
 rename_i l tt hlk hsz
 split at hh
 case isFalse=>cases hh
 rename_i hc
 simp only [Option.some.injEq,Prod.mk.injEq] at hh;obtain⟨rfl,rfl⟩:=hh;obtain⟨rfl,rfl⟩:=hd2;obtain⟨b,c,q1,m,rest,fz,q2,q3,q4,q5,_⟩:=hI.ob _ (Zbe hlk);obtain⟨b',c',q6,hX⟩:∃b c,ρ i=some (b,c)∧a.eval x= .pointer (some ⟨b,off,none⟩):=Zj ht hx;simp only at q1;rw [q1] at q6;injection q6 with q6
 injection q6 with q6 q7
 subst q6;have hr:=q4 rfl;subst hr;rw [List.append_nil,Nat.mul_one,←q3.len] at q5;have hb:=fun w=>ZgA (P:=P) (a:=a) (cap:=n) false ht h3 h4 hc.2.1 hc.2.2 w;have hTe:=hE _ _ h2;have hexec:execOp a.eval o=(do let v←Instr.sliceAt ty (a.eval x) (lo.map a.eval) (hi.map a.eval) none;pure (.value v)):=by
  unfold execOp;simp only [ho];rfl
 have hcap:n - p=c - (l.length - (n - p)):=by omega
 by_cases hn:n=p
 · refine Zce (V:= .slice (some ⟨b,off,none⟩) (q - p) (n - p)) hexec ⟨b,c,off,q1,by omega,fun hh=> ?_,by rw [←hcap]⟩ ?_ hI
   · rcases hh with hh|hh
     · omega
     · omega
   · simp only [Instr.sliceAt,Sem.run_bind,Zn hd1,Result.andThen_ok,hX,Instr.sureAddr,Sem.run_pure,hb,hTe.sizeOf,if_pos hn]
 · refine Zce (V:= .slice (some ⟨b,off+p,none⟩) (q - p) (n - p)) hexec ⟨b,c,off+p,q1,by omega,fun hh=>rfl,by rw [←hcap]⟩ ?_ hI;simp only [Instr.sliceAt,Sem.run_bind,Zn hd1,Result.andThen_ok,hX,Instr.sureAddr,Sem.run_pure,hb,hTe.sizeOf,if_neg hn,hsz,Nat.mul_one,add_eq]
theorem eff_ok (hE:∀t ti,E.ty t=some ti→TyOk P t ti)(hq:∀t ti,E.eqt t=true→E.ty t=some ti→ZcL P t ti∧(∀n e,ti.k= .ar n e→Zdb P t ti))(hG:GOk E n0 w0)(ht:TR ρ t a)(hI:IV n0 w0 ρ nx h w)(hf:fr<nx)(hn:ρ fr=none){h':Hp} (hh:eff E fr t h o.op=some (v,h')):
 ZaH P n0 w0 ρ nx fr a o v h' w:=by
 cases ho:o.op with
 |alloc e=>exact Zqh hE hI hf hn ho hh
 |box e x=>exact Zqk ht hI hf hn ho hh
 |buildSlice ty n ps=>exact Zql hE ht hI hf hn ho hh
 |load ty x=>exact Zqn hE hG ht hI ho hh
 |store ty x y=>exact Zqv hE ht hI ho hh
 |makeSlice ty x y=>exact Zqq hE ht hI hf hn ho hh
 |makeMap ty x=>exact Zqp hI hf hn ho hh
 |slice ty x lo hi mx=>exact Zqu hE ht hI ho hh
 |convert s d x=>exact Zqm hE hG ht hI hf hn ho hh
 |range ty x=>exact Zqt hE ht hI hf hn ho hh
 |next x b=>exact Zqs ht hI ho hh
 |lookup ty x k ok=>exact Zqo hE hq ht hI ho hh
 |mapUpdate ty x k y=>exact Zqr hE hq ht hI ho hh
 |call c=>
  cases hc:c.callee with
  |builtin b=>
   cases b<;>first|exact Zqj hE hG ht hI hf hn hc ho hh|(rw [ho] at hh;simp [eff,Zf2,hc] at hh)
  |_=>rw [ho] at hh;simp [eff,Zf2,hc] at hh
 |_=>rw [ho] at hh;simp [eff] at hh
end
end Ev
namespace Ev
noncomputable section
inductive Ex where
 |nrm|exit (id:Nat)|ret
 deriving DecidableEq
abbrev R3:=AV×Nat×Hp
abbrev Zbj:=Nat→List AV→Nat→Hp→Option R3
def evs (t:List AV):List Operand→Option (List AV)
 |[]=>some []
 |x::l=>opt (ev t x) fun v=>opt (evs t l) fun r=>some (v::r)
def pAV:List (Nat×Nat)→List AV
 |[]=>[]
 |(i,o)::l=> .c (.p i o)::pAV l
def Zka (cf:Zbj)(t:List AV)(nx:Nat)(h:Hp):Op→Option R3
 | .call c=>match c.callee with
  | .value f=>match ev t f with
   |some (.c (.fn k fs cs))=>opt (evs t c.args.toList) fun l=>cf k (pAV fs++(l++pAV cs)) nx h
   |_=>none
  |_=>none
 |_=>none
def insH (x:Nat×Ob)(l:Hp):Hp:=List.rec (motive:=fun _=>Hp) [x] (fun y r ih=>cond (Nat.blt x.1 y.1) (y::ih) (x::y::r)) l
def nrmH (h:Hp):Hp:=match h with
 |[]=>[]
 |x::l=>insH x l
def stp (E:Env)(cf:Zbj)(fr:Nat)(t:List AV)(nx:Nat)(h:Hp)(op:Op):Option R3:=
 match pop E t op with
 |some v=>some (v,nx,h)
 |none=>match eff E fr t h op with
  |some (v,h')=>some (v,nx,nrmH h')
  |none=>Zka cf t nx h op
def ZcD (d:Option Nat)(v:AV)(t:List AV):List AV:=match d with
 |some i=>setN v t i
 |none=>t
def Zfy (ops:List Oper)(t:List AV)(o:Oper):Bool:=match o.guard with
 |none=>true
 |some (j,y)=>match ZaK ops j with
  |some oj=>match oj.dst with
   |some d=>match ZaK t d with
    |some (.c (.b x))=>x==y
    |_=>false
   |none=>false
  |none=>false
def Zim (E:Env)(cf:Zbj)(ops:List Oper)(o:Oper)(ih:List AV→Nat→Hp→Option (List AV×Nat×Hp))(t:List AV)(nx:Nat)(h:Hp):Option (List AV×Nat×Hp):=
 if Zfy ops t o then(match stp E cf nx t (nx+1) h o.op with
  |some (v,nx',h')=>ih (ZcD o.dst v t) nx' h'
  |none=>none) else ih (ZcD o.dst (.t []) t) nx h
def regS (E:Env)(cf:Zbj)(ops:List Oper)(l:List Oper):List AV→Nat→Hp→Option (List AV×Nat×Hp):=
 List.rec (motive:=fun _=>List AV→Nat→Hp→Option (List AV×Nat×Hp)) (fun t nx h=>some (t,nx,h)) (fun o _ ih=>Zim E cf ops o ih) l
abbrev Lds:=List (Nat×Nat×List Cl)
def fcl:Cl→Bool
 | .sl _ _ len cut=>len !=0||cut==0
 |_=>true
def ldOf (E:Env)(base:Nat)(t:List AV)(h:Hp):Op→Option (AV×Lds)
 | .load ty x=>opt (E.ty ty) fun ti=>match ev t x with
  |some (.c (.p i o))=>if i<base then opt (Zb4 E h (.c (.p i o)) ti.size) fun l=>if l.all fcl then opt (mk ti l) fun v=>some (v,[(i,o,l)]) else none else none
  |some (.c (.g i o))=>opt (Zb4 E h (.c (.g i o)) ti.size) fun l=>opt (mk ti l) fun v=>some (v,[])
  |_=>none
 |_=>none
def quiet (E:Env)(q:Bool)(ops:List Oper)(base:Nat)(t:List AV)(h:Hp)(o:Oper):Option (AV×Lds):=
 if Zfy ops t o then match pop E t o.op with
  |some v=>some (v,[])
  |none=>if q then ldOf E base t h o.op else none
 else some (.t [],[])
def pick (E:Env)(q:Bool)(ops:List Oper)(listed:Array Bool)(base:Nat)(t:List AV)(h:Hp):List Nat→Option (Nat×Oper×AV×Lds)
 |[]=>none
 |i::r=>match ZaK ops i with
  |some o=>match quiet E q ops base t h o with
   |some (v,l)=>if Region.free .any ops.toArray listed i then some (i,o,v,l) else pick E q ops listed base t h r
   |none=>pick E q ops listed base t h r
  |none=>pick E q ops listed base t h r
structure RO where
 t:List AV
 nx:Nat
 h:Hp
 ld:Lds
 hs:List Hp
def stpW (E:Env)(cf:Zbj)(ops:List Oper)(fr:Nat)(t:List AV)(nx:Nat)(h:Hp)(o:Oper):Option R3:=
 if Zfy ops t o then stp E cf fr t nx h o.op else some (.t [],nx,h)
def Zdq (E:Env)(q:Bool)(cf:Zbj)(ops:List Oper)(base:Nat):Nat→Array Bool→List AV→Nat→Hp→Option RO
 |0,listed,t,nx,h=>match Region.ready .any ops.toArray listed with
  |[]=>some ⟨t,nx,h,[],[]⟩
  |_=>none
 |n+1,listed,t,nx,h=>match Region.ready .any ops.toArray listed with
  |[]=>some ⟨t,nx,h,[],[]⟩
  |rs=>match pick E q ops listed base t h rs with
   |some (i,o,v,l)=>opt (Zdq E q cf ops base n (listed.setIfInBounds i true) (ZcD o.dst v t) nx h) fun r=>some {r with ld:=l++r.ld}
   |none=>match rs with
    |[i]=>opt (ZaK ops i) fun o=>opt (stpW E cf ops (base+i) t nx h o) fun s=>opt (Zdq E q cf ops base n (listed.setIfInBounds i true) (ZcD o.dst s.1 t) s.2.1 s.2.2) fun r=>some {r with hs:=s.2.2::r.hs}
    |[i,j]=>opt (ZaK ops i) fun o=>opt (stpW E cf ops (base+i) t nx h o) fun s=>opt (Zdq E q cf ops base n (listed.setIfInBounds i true) (ZcD o.dst s.1 t) s.2.1 s.2.2) fun r=>
     opt (ZaK ops j) fun o2=>opt (stpW E cf ops (base+j) t nx h o2) fun s2=>opt (Zdq E q cf ops base n (listed.setIfInBounds j true) (ZcD o2.dst s2.1 t) s2.2.1 s2.2.2) fun r2=>
      if r.t=r2.t∧r.nx=r2.nx∧r.h=r2.h then some {r with ld:=r.ld++r2.ld,hs:=s.2.2::s2.2.2::(r.hs++r2.hs)} else none
    |_=>none
def Zb6 (E:Env)(base:Nat)(ld:Lds)(h:Hp):Bool:=ld.all fun x=>decide (x.1<base)&&x.2.2.all fcl&&decide (Zb4 E h (.c (.p x.1 x.2.1)) x.2.2.length=some x.2.2)
def regQ (E:Env)(q:Bool)(cf:Zbj)(ops:List Oper)(t:List AV)(nx:Nat)(h:Hp):Option (List AV×Nat×Hp):=
 if Region.noSelect ops.toArray then opt (Zdq E q cf ops nx ops.length (Array.replicate ops.length false) t (nx+ops.length) h) fun r=>if(h::r.hs).all (Zb6 E nx r.ld) then some (r.t,r.nx,r.h) else none else none
def regD (E:Env)(cf:Zbj)(ops:List Oper)(t:List AV)(nx:Nat)(h:Hp):Option (List AV×Nat×Hp):=
 match regQ E true cf ops t nx h with
 |some r=>some r
 |none=>regQ E false cf ops t nx h
def ZbP (b:Nat):List Cl→List Nat
 |[]=>[]
 | .p i _::l=>if b≤i then i::ZbP b l else ZbP b l
 | .sl i _ _ _::l=>if b≤i then i::ZbP b l else ZbP b l
 | .m i::l=>if b≤i then i::ZbP b l else ZbP b l
 | .fn _ fs cs::l=>fs.map (·.1)++(cs.map (·.1)++ZbP b l)
 |_::l=>ZbP b l
def Zhf (b:Nat):List A0→List Nat
 |[]=>[]
 | .c x::l=>ZbP b [x]++Zhf b l
 | .a m::l=>ZbP b m++Zhf b l
def avIds (b:Nat):AV→List Nat
 | .c x=>ZbP b [x]
 | .a l=>ZbP b l
 | .t l=>Zhf b l
def obIds (b:Nat):Ob→List Nat
 | .cl l _ _ _=>ZbP b l
 |_=>[]
def reach (b:Nat)(h:Hp):Nat→List Nat→List Nat→List Nat
 |0,_,acc=>acc
 |n+1,now,acc=>match now.flatMap fun i=>match look h i with|some o=>obIds b o|none=>[] with
  |[]=>acc
  |nw=>reach b h n nw (nw++acc)
def ZdS (b:Nat)(ids:List Nat):Hp→Hp
 |[]=>[]
 |x::l=>if x.1<b then x::ZdS b ids l else if ids.contains x.1 then x::ZdS b ids l else ZdS b ids l
def gc (b:Nat)(v:AV)(h:Hp):Hp:=
 let ids:=avIds b v
 ZdS b (reach b h 6 ids ids) h
def Zds (E:Env)(t:List AV)(h:Hp):List ResultVar→Option (List AV)
 |[]=>some []
 | .tmp i::l=>opt (ZaK t i) fun v=>opt (Zds E t h l) fun r=>some (v::r)
 | .cell i ty::l=>opt (E.ty ty) fun ti=>opt (ZaK t i) fun x=>opt (Zb4 E h x ti.size) fun c=>opt (mk ti c) fun v=>opt (Zds E t h l) fun r=>some (v::r)
def a0s:List AV→Option (List A0)
 |[]=>some []
 |v::l=>opt v.a0 fun x=>opt (a0s l) fun r=>some (x::r)
def Zgs:List AV→Option AV
 |[v]=>some v
 |l=>opt (a0s l) fun r=>some (.t r)
def cl (E:Env)(orc:Nat→List AV→Hp→Option AV)(esc:Nat→Bool)(run:Code→List AV→Nat→Hp→Option (Ex×List AV×Nat×Hp)):Zbj:=fun f args nx h=>
 opt (E.fn f) fun F=>opt F.body fun c=>match orc f args h with
 |some v=>some (v,nx,h)
 |none=>match run c (args++List.replicate (F.ntmps - args.length) (.t [])) nx h with
  |some (e,t',nx',h')=>match e with
   | .exit _=>none
   |_=>opt (Zds E t' h' F.results.toList) fun l=>opt (Zgs l) fun v=>some (v,nx',if esc f then h' else gc nx v h')
  |none=>none
abbrev ZcO:=Code→List AV→Nat→Hp→Option (Ex×List AV×Nat×Hp)
def fin (m:Nat)(s:List AV×Nat×Hp):Option (Ex×List AV×Nat×Hp):=
 cond (Nat.beq (m % 16) 0) (frc s.1 fun t=>frc s.2.2 fun h=>some (.nrm,t,s.2.1,h)) (some (.nrm,s))
def xReg (E:Env)(m:Nat)(cf:Zbj)(ops:List Oper)(t:List AV)(nx:Nat)(h:Hp):Option (Ex×List AV×Nat×Hp):=opt (regS E cf ops ops t nx h) (fin m)
def ZiW (E:Env)(cf:Zbj)(ops:List Oper)(t:List AV)(nx:Nat)(h:Hp):Option (Ex×List AV×Nat×Hp):=opt (regD E cf ops t nx h) fun s=>some (.nrm,s)
def xSeq (ih:ZcO)(a b:Code)(t:List AV)(nx:Nat)(h:Hp):Option (Ex×List AV×Nat×Hp):=match ih a t nx h with
 |some (.nrm,t',nx',h')=>ih b t' nx' h'
 |r=>r
def ZiU (ih:ZcO)(x:Operand)(a b:Code)(t:List AV)(nx:Nat)(h:Hp):Option (Ex×List AV×Nat×Hp):=match evB t x with
 |some true=>ih a t nx h
 |some false=>ih b t nx h
 |none=>none
def ZiT (ih:ZcO)(id:Nat)(b:Code)(t:List AV)(nx:Nat)(h:Hp):Option (Ex×List AV×Nat×Hp):=match ih b t nx h with
 |some (.exit id',s)=>if id'=id then some (.nrm,s) else some (.exit id',s)
 |r=>r
def ZiV (ih:ZcO)(b:Code)(t:List AV)(nx:Nat)(h:Hp):Option (Ex×List AV×Nat×Hp):=match ih b t nx h with
 |some (.nrm,t',nx',h')=>ih (.loop b) t' nx' h'
 |r=>r
def Zer (E:Env)(orc:Nat→List AV→Hp→Option AV)(esc:Nat→Bool)(m:Nat)(ih:ZcO)(c:Code)(t:List AV)(nx:Nat)(h:Hp):Option (Ex×List AV×Nat×Hp):=match c with
 | .skip=>some (.nrm,t,nx,h)
 | .label _=>some (.nrm,t,nx,h)
 | .region _ ops false=>xReg E m (cl E orc esc ih) ops.toList t nx h
 | .region _ ops true=>ZiW E (cl E orc esc ih) ops.toList t nx h
 | .seq a b=>xSeq ih a b t nx h
 | .cond x a b=>ZiU ih x a b t nx h
 | .block id b=>ZiT ih id b t nx h
 | .loop b=>ZiV ih b t nx h
 | .exit id=>some (.exit id,t,nx,h)
 | .ret=>some (.ret,t,nx,h)
 |_=>none
def ex (E:Env)(orc:Nat→List AV→Hp→Option AV)(esc:Nat→Bool)(n:Nat):ZcO:=
 Nat.rec (motive:=fun _=>ZcO) (fun _ _ _ _=>none) (fun m ih=>Zer E orc esc m ih) n
def run (E:Env)(orc:Nat→List AV→Hp→Option AV)(esc:Nat→Bool)(n f:Nat)(args:List AV):Option AV:=
 opt (cl E orc esc (ex E orc esc n) f args 0 []) fun r=>some r.1
end
end Ev
end Go.Proofs.YtecandjkbbpooaaGreatDoor
