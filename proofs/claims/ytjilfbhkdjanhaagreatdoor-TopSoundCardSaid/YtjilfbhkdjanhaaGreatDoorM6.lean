/- Lemmas for a statement on the tops; conditions: as each says. -/
import Derived.Lib.AppendZeros
import Derived.Laws.BytesString
import Derived.Test.YtjilfbhkdjanhaaGreatDoorM5
set_option linter.all false
set_option maxRecDepth 100000
set_option maxHeartbeats 200000
namespace Go.Proofs.YtjilfbhkdjanhaaGreatDoor
open Go Go.RowKit
namespace Ev
section
variable {P:Program} {E:Env} {n0:Nat} {w0 w:World} {ρ:Rho} {nx fr:Nat} {h:Hp} {t:List AV} {a:Act} {o:Oper} {v:AV}
theorem Zhb{s:Sem Value}{V:Value}{ob:Obj}{c:Nat}{x:Ob}(I:IV n0 w0 ρ nx h w)(y:fr<nx)(hn:ρ fr=none)(j:execOp a.eval o=(do let v<-s;pure (.value v)))(q:s.run P w=.ok V (w.alloc ob))
 (C:AR (ρ.put fr (w.heap.size,c)) v V) (D:ObR (ρ.put fr (w.heap.size,c)) (w.alloc ob) w.heap.size c x):ZaO P n0 w0 ρ nx fr a o v ((fr,x)::h) w:=
 Zdr j C q (I.new y hn ob c x D) (Rho.put_le hn) (λ_ u=>Rho.put_ne u)
theorem ZtA(hE:∀t Z,E.ty t=some Z->TyOk P t Z)(ht:TR ρ t a)(hI:IV n0 w0 ρ nx h w)(hf:fr<nx)(hn:ρ fr=none){ty n:Nat}{ps:Array (Nat×Operand)}(ho:o.op=.buildSlice ty n ps){h':Hp}(j:eff E fr t h o.op=some (v,h')):
 ZaO P n0 w0 ρ nx fr a o v h' w:=by
 rw[ho] at j;simp only[eff,Zmv] at j;obtain⟨Z,C,j⟩:=Zc j;obtain⟨d,W,D⟩:=(hE _ _ C).und;split at j
 ·rename_i e hk
  rw[hk] at D;cases d<;>first|exact D.elim|skip
  have ae:e=_:=D;subst ae;obtain⟨y,h2,j⟩:=Zc j;have q:=hE _ _ h2;split at j
  ·rename_i hc
   obtain⟨l,h3,j⟩:=Zc j;simp only[Option.some.injEq,Prod.mk.injEq] at j;obtain⟨rfl,rfl⟩:=j;obtain⟨z,aa,L,_⟩:=q.zero;have I:z.cells.size=y.size:=by rw[<-Array.length_toList,<-(L ρ).len,q.zlen]
   have ad:=Rho.put_le (x:=(w.heap.size,n)) hn;have J:=LR.zeros (L ρ) n;have N:=ZoG z.cells n;rw[I] at N;rw[<-N] at J;obtain⟨m',f1,f2⟩:=Zhi ht h3 J;have U:m'.size=n*y.size:=by
    have q1:∀(ps:List (Nat×Operand)) (l Y:List Cl),Zc6 (λi=>some (i*y.size,y.size)) t l ps=some Y->Y.length=l.length:=by
     intro ps;induction ps with
     |nil=>intro l Y h;simp only[Zc6,Option.some.injEq] at h;rw[h]
     |cons p ps ih=>
      intro l Y h;obtain⟨i,x⟩:=p;simp only[Zc6] at h;obtain⟨os,_,h⟩:=Zc h;obtain⟨u,_,h⟩:=Zc h;split at h
      ·obtain⟨l1,C,h⟩:=Zc h;rw[ih _ _ h];unfold Zgv at C;split at C
       ·injection C with C;subst C;simp;omega
       ·cases C
      ·cases h
    rw[<-Array.length_toList,<-f2.len,q1 _ _ _ h3,Zh4,q.zlen]
   refine Zhb (s:=Instr.buildSlice ty n (ps.map λ(i,x)=>(i,a.eval x))) (V:=.slice (some ⟨w.heap.size,0,none⟩) n n) (ob:=.cells (m'.toList++[]).toArray e) (c:=n) hI hf hn (by unfold execOp;simp only[ho]) ?_ ⟨_,_,0,Rho.put_self,by omega,λ_=>rfl,rfl⟩
    (Zhz _ _ _ _ [] _ _ _ _ (f2.mono (VR.mono ad)) (λ_=>rfl) (by simp[U]) (by simp))
   have O:(ps.map λ(i,x)=>(i,a.eval x)).toList=ps.toList.map λp=>(p.1,a.eval p.2):=by simp
   have X:¬n*y.size>2^24:=by
    have:(2:Nat)^24=16777216:=by decide
    omega
   by_cases h0:n*y.size=0
   ·have ac:((Array.range (n*y.size)).map (λi=>z.cells[i % y.size]!))=#[]:=by rw[h0];simp
    have ab:((Array.range (n*y.size)).map (λi=>(#[]:Array Value)[i % 0]!))=#[]:=by rw[h0];simp
    rw[ac] at f1;simp only[Instr.buildSlice,Sem.run_bind,run_und W,Result.andThen_ok,q.sizeOf,if_neg X,if_pos h0,Sem.run_pure,O];simp only[Array.size_empty,ab,f1,Sem.run_bind,ZeF,Result.andThen_ok,Sem.run_pure];simp
   ·simp only[Instr.buildSlice,Sem.run_bind,run_und W,Result.andThen_ok,q.sizeOf,if_neg X,if_neg h0,Sem.run_pure,O,aa,I];simp only[f1,Sem.run_bind,ZeF,Result.andThen_ok,Sem.run_pure];simp
  ·cases j
 ·cases j
theorem Zku(n:Nat)(h:n<=100000):IntKind.i64.wrap (n:Int)=n:=by
 have e:((2:Int)^64)=18446744073709551616:=by decide
 have q:((2:Int)^63)=9223372036854775808:=by decide
 unfold IntKind.wrap;simp only[IntKind.bits,IntKind.signed,e,show 64 - 1=63 from rfl,q];have:(n:Int) % 18446744073709551616=n:=by omega
 rw[this];have j:decide ((n:Int)>=9223372036854775808)=false:=by simp;omega
 rw[j];simp
theorem ZtF(hE:∀t ti,E.ty t=some ti->TyOk P t ti)(ht:TR ρ t a)(hI:IV n0 w0 ρ nx h w)(hf:fr<nx)(hn:ρ fr=none){ty:Nat}{x y:Operand}(ho:o.op=.makeSlice ty x y){h':Hp}(j:eff E fr t h o.op=some (v,h')):
 ZaO P n0 w0 ρ nx fr a o v h' w:=by
 rw[ho] at j;simp only[eff,Zmz] at j;obtain⟨ti,h1,j⟩:=Zc j;obtain⟨d,aj,L⟩:=(hE _ _ h1).und;split at j
 ·rename_i e hk
  rw[hk] at L;cases d<;>first|exact L.elim|skip
  have ai:e=_:=L;subst ai;obtain⟨N,h2,j⟩:=Zc j;have C:=hE _ _ h2;obtain⟨p,h3,j⟩:=Zc j;obtain⟨q,h4,j⟩:=Zc j;split at j
  ·rename_i hc
   simp only[Option.some.injEq,Prod.mk.injEq] at j;obtain⟨rfl,rfl⟩:=j;obtain⟨k,hx⟩:=Zf1 ht h3;obtain⟨k',hy⟩:=Zf1 ht h4;obtain⟨info,ah,ay,Z⟩:=C.info;obtain⟨z,ac,O,_⟩:=C.zero;have D:z.cells.size=N.size:=by rw[<-Array.length_toList,<-(O ρ).len,C.zlen]
   have af:=Rho.put_le (x:=(w.heap.size,q)) hn;have U:=ZoG z.cells q;rw[D] at U;obtain⟨r,rfl⟩:∃r,q=p+r:=⟨q - p,by omega⟩
   have u:=ZpJ z.cells.toList r p;have wp:=Zku p (by omega);have wq:=Zku (p+r) (by omega);refine Zhb (s:=Instr.makeSlice ty (a.eval x) (a.eval y)) (V:=.slice (some ⟨w.heap.size,0,none⟩) p (p+r)) (ob:=.cells (zeros z.cells.toList p++zeros z.cells.toList r).toArray e) (c:=p+r) hI hf hn (by unfold execOp;simp only[ho]) ?_ ⟨_,_,0,Rho.put_self,by omega,λ_=>rfl,rfl⟩
    (Zhz _ _ _ _ (zeros z.cells.toList r) _ _ _ _ ((LR.zeros (O ρ) p).mono (VR.mono af)) (λhd=>?_) (by rw[<-u,Zh4,Array.length_toList,D]) (λ_=>by unfold maxLen;omega))
   ·have aa:(2:Int)^48=281474976710656:=by decide
    have ad:¬(((info.bytes:Int)*((p+r:Nat):Int))>2^48):=by
     rw[aa,Z];have h5:((N.bytes*(p+r):Nat):Int)<=((100000000:Nat):Int):=Int.ofNat_le.2 hc.2.2.1;rw[Int.natCast_mul] at h5;omega
    have I:¬(p+r)*info.bytes>roomBytes:=by
     have:roomBytes=140737488355328:=by decide
     rw[Z,this,Nat.mul_comm];have:=hc.2.2.1;omega
    have X:¬(((p+r:Nat):Int)<0):=by omega
    have J:¬((p:Int)<0):=by omega
    have Y:¬((p:Int)>((p+r:Nat):Int)):=by omega
    have W:((Array.range ((p+r)*N.size)).map (λi=>z.cells[i % N.size]!))=(zeros z.cells.toList p++zeros z.cells.toList r).toArray:=by
     apply Array.ext'
     rw[<-u];exact U
    simp only[Instr.makeSlice,hx,hy,asInt,asIntOf,Sem.run_bind,run_und aj,Result.andThen_ok,Sem.run_pure,run_ti ah,wp,wq];simp only[ad,X,J,Y,decide_false,Bool.or_false,Bool.false_eq_true,if_false,askRoom,Int.toNat_natCast,if_neg I,Sem.run_bind,Sem.run_pure,Result.andThen_ok,C.sizeOf];by_cases h0:(p+r)*N.size=0
    ·have ae:((Array.range ((p+r)*N.size)).map (λi=>(#[]:Array Value)[i % 0]!))=(zeros z.cells.toList p++zeros z.cells.toList r).toArray:=by
      rw[<-W,h0];simp
     simp only[if_pos h0,Sem.run_bind,Sem.run_pure,Result.andThen_ok,Array.size_empty,ae,ZeF]
    ·simp only[if_neg h0,Sem.run_bind,Sem.run_pure,Result.andThen_ok,ac,D,W,ZeF]
   ·have:r=0:=by
     split at hd
     ·omega
     ·omega
    subst this;rfl
  ·cases j
 ·cases j
theorem ZtE(y:IV n0 w0 ρ nx h w)(u:fr<nx)(hn:ρ fr=none){ty:Nat}{x:Option Operand}(q:o.op=.makeMap ty x){h':Hp}(j:eff E fr t h o.op=some (v,h')):
 ZaO P n0 w0 ρ nx fr a o v h' w:=by
 rw[q] at j;cases x with
 |some x=>simp[eff] at j
 |none=>
  simp only[eff,Zmy,Option.some.injEq,Prod.mk.injEq] at j;obtain⟨rfl,rfl⟩:=j;refine Zhb (s:=Instr.makeMap ty none) (V:=.map (some w.heap.size)) (ob:=.map #[] 0) (c:=0) y u hn (by unfold execOp;simp only[q];rfl) rfl ⟨_,_,Rho.put_self,rfl⟩ ⟨[],0,Zg1 _ _,trivial⟩
theorem ZtI(U:∀t u,E.ty t=some u->TyOk P t u)(I:TR ρ t a)(O:IV n0 w0 ρ nx h w)(L:fr<nx)(hn:ρ fr=none){ty:Nat}{x:Operand}(C:o.op=.range ty x){h':Hp}(j:eff E fr t h o.op=some (v,h')):
 ZaO P n0 w0 ρ nx fr a o v h' w:=by
 rw[C] at j;simp only[eff,ZmB] at j;obtain⟨u,W,j⟩:=Zc j;obtain⟨d,y,q⟩:=(U _ _ W).und;split at j
 ·rename_i l J D
  rw[J] at q;cases d<;>first|exact q.elim|skip
  have N:a.eval x=.string (Bs l):=Zl I D;simp only[Option.some.injEq,Prod.mk.injEq] at j;obtain⟨rfl,rfl⟩:=j;refine Zhb (s:=Instr.range ty (a.eval x)) (V:=.pointer (some ⟨w.heap.size,0,none⟩)) (ob:=.stringIter (Bs l) 0) (c:=0) O L hn (by unfold execOp;simp only[C]) ?_ ⟨_,_,Rho.put_self,rfl⟩ (Zg1 _ _);simp only[Instr.range,Sem.run_bind,run_und y,Result.andThen_ok,N,Sem.run_pure];rfl
 ·cases j
theorem ZtH(Z:TR ρ t a)(V:IV n0 w0 ρ nx h w){x:Operand}{b:Bool}(N:o.op=.next x b){h':Hp}(q:eff E fr t h o.op=some (v,h')):
 ZaO P n0 w0 ρ nx fr a o v h' w:=by
 rw[N] at q;cases b with
 |false=>simp[eff] at q
 |true=>
  simp only[eff,eNext] at q;split at q
  ·rename_i i Y
   split at q
   ·rename_i l j I
    obtain⟨b,c,L,X⟩:=V.ob _ (Zbq I);obtain⟨b',c',C,W⟩:∃b c,ρ i=some (b,c)/\a.eval x=.pointer (some ⟨b,0,none⟩):=Zl Z Y;simp only at L;rw[L] at C;injection C with C
    injection C with C q4
    subst C;have y:w.heap[b]?=some (.stringIter (Bs l) j):=X;split at q
    ·rename_i O
     simp only[Option.some.injEq,Prod.mk.injEq] at q;obtain⟨rfl,rfl⟩:=q;have D:j<(Bs l).size:=by rw[Zb6];exact O
     have u:(Sem.getObj b Sem.pure).run P w=.ok (.stringIter (Bs l) j) w:=by simp only[Sem.run,y]
     refine⟨ρ,{w with heap:=w.heap.setIfInBounds b (.stringIter (Bs l) (j+(Utf8.decode (Bs l) j).2))},.tuple #[.bool true,goInt j,.int .i32 (Utf8.decode (Bs l) j).1],⟨[.bool true,goInt j,.int .i32 (Utf8.decode (Bs l) j).1],rfl,rfl,rfl,rfl,trivial⟩,.inl ?_,
      V.turn (x:=.it l (j+(Utf8.decode (Bs l) j).2)) L ⟨_,Zbq I⟩ rfl rfl rfl (by simp) (λk hk=>by simp only[Array.getElem?_setIfInBounds];rw[if_neg (λe=>hk e.symm)]) ?_,ρ.le_refl,λ_ _=>rfl⟩
     ·unfold execOp;simp only[N,W,Instr.next,getObj,Sem.run_bind,u,Result.andThen_ok];rw[if_pos D];simp only[setObj,Sem.run,y,Result.andThen_ok,Sem.run_bind,Sem.run_pure]
     ·show(w.heap.setIfInBounds b _)[b]?=_
      have hb:=(Array.getElem?_eq_some_iff.1 y).1;simp[hb]
    ·rename_i U
     simp only[Option.some.injEq,Prod.mk.injEq] at q;obtain⟨rfl,rfl⟩:=q;have J:¬j<(Bs l).size:=by rw[Zb6];exact U
     have u:(Sem.getObj b Sem.pure).run P w=.ok (.stringIter (Bs l) j) w:=by simp only[Sem.run,y]
     refine⟨ρ,w,.tuple #[.bool false],⟨[.bool false],rfl,rfl,trivial⟩,.inl ?_,V,ρ.le_refl,λ_ _=>rfl⟩;unfold execOp;simp only[N,W,Instr.next,getObj,Sem.run_bind,u,Result.andThen_ok];rw[if_neg J];rfl
   ·cases q
  ·cases q
end
end Ev
namespace Ev
open Go.Lib
def ZkC(j:Value)(m:Nat):Builtin.zeroCells #[j] m=(List.replicate m j).toArray:=by
 unfold Builtin.zeroCells;apply Array.ext
 ·simp
 ·intro i u q;simp[Nat.mod_one]
section
variable {P:Program}
theorem Zv7(w:World)(base:Nat)(t tn ty e:TypeId)(i:TypeInfo)(z D:Value)(ht:P.underlying t=some (.slice e))(V:P.underlying tn=some (.int .i64))(hi:P.info? e=some i)(hz:i.zero=some z)
 (L:i.size=1) (aa:i.bytes=1) (J:z.cells=#[D]) (h1:D.oneCell'=true) (v:Value) (n:Nat) (xs:List Value) (q:w.ownsRow base e 1 v n xs) (m:Nat) (hm:0<m) (hN:n+m<=100000) (ab:base<=w.heap.size):
 ∃v' w',(Builtin.append_ #[t,tn] ty #[v,.int .i64 m]).run P w=.ok v' w'/\w'.ownsRow base e 1 v' (n+m) (xs++List.replicate m D)/\w.grownBy w' v.ownBlock/\(v'.ownBlock=v.ownBlock\/v'.ownBlock=some w.heap.size):=by
 have C:(xs++List.replicate m D).length=(n+m)*1:=by rw[List.length_append,q.1];simp
 have hw:IntKind.i64.wrap (m:Int)=m:=Zku m (by omega);have O:¬((m:Int)<0):=by omega
 have U:¬(281474976710656<(m:Int)):=by omega
 have ae:¬m=0:=by omega
 have ax:∀u∈List.replicate m D,u.oneCell'=true:=λu hu=>by rw[List.eq_of_mem_replicate hu];exact h1
 have grown:∀(y:Nat),y<n+m->∀(row:Option Nat),
  (w.drew.alloc (.cells (xs.toArray++(List.replicate m D).toArray++Builtin.zeroCells z.cells (grownCap w (n+m) y e - (n+m))) e)).ownsRow base e 1
   (.slice (some ⟨w.heap.size,0,none⟩) (n+m) (grownCap w (n+m) y e)) (n+m) (xs++List.replicate m D)/\
  w.grownBy (w.drew.alloc (.cells (xs.toArray++(List.replicate m D).toArray++Builtin.zeroCells z.cells (grownCap w (n+m) y e - (n+m))) e)) row:=by
  intro y ho row;have ap:=grownCap_ge w (n+m) y e;have Z:grownCap w (n+m) y e<=maxLen:=grownCap_le_maxLen w (n+m) y e (by unfold maxLen;omega);refine⟨⟨C,.inr ⟨w.heap.size,_,_,rfl,ab,heap_alloc_new w.drew _,ap,Z,?_,?_⟩⟩,⟨rfl,rfl,rfl,by simp,λk hk _=>heap_alloc_old w.drew _ k hk⟩⟩
  ·rw[J];simp only[Array.size_append,List.size_toArray,size_zeroCells,q.1,List.length_replicate];simp;omega
  ·simp only[Array.toList_append,List.append_assoc];rw[<-List.append_assoc,<-C];exact List.take_left
 rcases q.2 with⟨rfl,rfl⟩|⟨g,cap,cur,rfl,aw,hg,aC,Z,au,W⟩
 ·have hx:xs=[]:=List.eq_nil_of_length_eq_zero (by simpa using q.1);subst hx;have hr:=run_append_nil_zeros (P:=P) w t tn ty e i z .i64 .i64 ht V hi hz m hm (by omega) (by omega) (by rw[aa];omega);have I:=grown 0 (by omega) (Value.ownBlock (.slice none 0 0));rw[J,ZkC] at hr;simp only[Nat.zero_add,List.nil_append,Array.empty_append,J] at I⊢;exact⟨_,_,hr,I.1,I.2,.inr rfl⟩
 ·by_cases N:n+m<=cap
  ·have af:n*1+(List.replicate m D).length<=cur.size:=by rw[au];simp;omega
   have X:=run_storeCells_at P g (n*1) e (List.replicate m D) 0 cur w hg (by simpa using af) ax;simp only[Nat.add_zero] at X;have hr:(Builtin.append_ #[t,tn] ty #[.slice (some ⟨g,0,none⟩) n cap,.int .i64 m]).run P w=.ok (.slice (some ⟨g,0,none⟩) (n+m) cap) (w.setRow g (cur.toList.take (n*1)++List.replicate m D++cur.toList.drop (n*1+(List.replicate m D).length)).toArray):=by
    simp[Builtin.append_,run_underlying ht,run_underlying V,sizeOf,typeInfo,zeroValue,hi,hz,L,aa,J,ZkC,asInt,asIntOf,hw,O,U,N,ae,Addr.add_lit,Nat.mul_one] at X⊢;rw[X];rfl
   refine⟨_,_,hr,⟨C,.inr ⟨g,cap,_,rfl,aw,setRow_heap w g cur _ e _ hg,N,Z,?_,?_⟩⟩,⟨rfl,rfl,rfl,by simp,λk _ hk=>setRow_other w g k _ (λe=>hk (by simp[Value.ownBlock,e]))⟩,.inl rfl⟩
   ·simp only[List.size_toArray,List.length_append,List.length_take,List.length_drop,Array.length_toList];omega
   ·rw[W,<-C];exact List.take_left
  ·have Y:∀j u,xs[j]?=some u->w.cell? ((⟨g,0,none⟩:Addr).add j)=some u:=q.cells (g:=g) rfl;have hn:¬(n+m<=cap):=by omega
   have ah:¬(9223372036854775807<((n:Int)+(m:Int))):=by omega
   have ai:¬(281474976710656<Builtin.nextslicecap (n+m) cap):=by
    have:=growslice_fits (need:=n+m) (bytes:=1) (by omega:cap<n+m) (by omega);omega
   have aq:=run_firstCells_some (P:=P) w.drew 1 n ⟨g,0,none⟩ n cap xs q.1 (by simpa using Y);have hr:(Builtin.append_ #[t,tn] ty #[.slice (some ⟨g,0,none⟩) n cap,.int .i64 m]).run P w=.ok (.slice (some ⟨w.heap.size,0,none⟩) (n+m) (grownCap w (n+m) cap e)) (w.drew.alloc (.cells (xs.toArray++(List.replicate m D).toArray++Builtin.zeroCells z.cells (grownCap w (n+m) cap e - (n+m))) e)):=by
    simp[Builtin.append_,run_underlying ht,run_underlying V,sizeOf,typeInfo,zeroValue,hi,hz,L,aa,J,ZkC,asInt,asIntOf,hw,O,U,hn,ah,ai,ae,Question.forced,aq,newRow,grownCap]
   have I:=grown cap (by omega) (Value.ownBlock (.slice (some ⟨g,0,none⟩) n cap));exact⟨_,_,hr,I.1,I.2,.inr rfl⟩
end
section
variable {P:Program} {E:Env} {n0:Nat} {w0 w:World} {ρ:Rho} {nx fr:Nat} {h:Hp} {t:List AV} {a:Act} {o:Oper} {v:AV}
theorem IV.grow{w':World}{u:Hp}{g c b0:Nat}{x:Ob}(I:IV n0 w0 ρ nx h w)(hf:fr<nx)(hn:ρ fr=none)(q:∀y∈u,y∈h)(ac:w'.os=w.os)(aa:w'.tape=w.tape)(V:w'.output=w.output)(ab:w.heap.size<=w'.heap.size)
 (ai:n0<=b0) (ae:n0<=g) (ad:g<w'.heap.size) (L:∀k,k<w.heap.size->k≠g->k≠b0->w'.heap[k]?=w.heap[k]?) (j:∀y∈u,∀b X,ρ y.1=some (b,X)->b≠g/\b≠b0)
 (hx:ObR (ρ.put fr (g,c)) w' g c x):IV n0 w0 (ρ.put fr (g,c)) nx ((fr,x)::u) w':=by
 have O:=Rho.put_le (x:=(g,c)) hn;have J:∀y∈h,∀b Z,ρ.put fr (g,c) y.1=some (b,Z)->ρ y.1=some (b,Z):=by
  intro y C b Z hb;obtain⟨b2,c3,u,_⟩:=I.ob y C;rw[O _ _ u] at hb;rw[u];exact hb
 refine⟨λi N=>by rw[Rho.put_ne (by omega)];exact I.fresh i N,⟨ac.trans I.low.os,aa.trans I.low.tape,V.trans I.low.output,Nat.le_trans I.low.size ab,λk hk=>(L k (Nat.lt_of_lt_of_le hk I.size) (by omega) (by omega)).trans (I.low.block k hk)⟩,I.hn,?_,?_,?_⟩
 ·intro i b X N;by_cases e:i=fr
  ·subst e;rw[Rho.put_self] at N;injection N with N
   injection N with u Y
   subst u;exact⟨ae,ad⟩
  ·rw[Rho.put_ne e] at N;have:=I.rng i b X N;omega
 ·intro y C;rcases List.mem_cons.1 C with rfl|C
  ·exact⟨_,_,Rho.put_self,hx⟩
  ·obtain⟨b,X,u,Y⟩:=I.ob y (q y C);exact⟨b,X,O _ _ u,Y.mono O (L b (I.rng _ _ _ u).2 (j y C _ _ u).1 (j y C _ _ u).2)⟩
 ·intro y C z U W b Z b' c2 hb D;rcases List.mem_cons.1 C with rfl|C<;>rcases List.mem_cons.1 U with rfl|U
  ·exact absurd rfl W
  ·have e:=J z (q z U) _ _ D;rw[Rho.put_self] at hb;injection hb with hb
   injection hb with u Y
   rw[<-u];exact λee=>(j z U _ _ e).1 ee.symm
  ·have e:=J y (q y C) _ _ hb;rw[Rho.put_self] at D;injection D with D
   injection D with u Y
   rw[<-u];exact(j y C _ _ e).1
  ·exact I.inj y (q y C) z (q z U) W _ _ _ _ (J y (q y C) _ _ hb) (J z (q z U) _ _ D)
theorem ZlN{ts e:Nat}{y:TI}(hd:P.underlying ts=some (.slice e))(C:TyOk P e y)(ai:y.bytes<=1000)(au:y.size≠0)(ty:TypeId){V:Value}{n:Nat}{xs:List Value}(J:w.ownsRow n0 e y.size V n xs)
 {b U q c2:Nat} {I:List Value} (ab:I.length=q*y.size) (ah:∀j u,I[j]?=some u->w.cell? ⟨b,U+j,none⟩=some u) (h1:∀u∈I,u.oneCell'=true) (L:n+q<=100000) (aw:q≠0) (aa:n0<=w.heap.size):
 ∃g c cur w',(Builtin.append_ #[ts,ts] ty #[V,.slice (some ⟨b,U,none⟩) q c2]).run P w=.ok (.slice (some ⟨g,0,none⟩) (n+q) c) w'/\n0<=g/\g<w'.heap.size/\(some g=V.ownBlock\/g=w.heap.size)/\n+q<=c/\c<=maxLen/\
  w'.heap[g]?=some (.cells cur e (0,0))/\cur.size=c*y.size/\cur.toList.take ((n+q)*y.size)=xs++I/\w.grownBy w' V.ownBlock:=by
 obtain⟨info,N,ad,ac⟩:=C.info;obtain⟨W,desc,z,O,q2,q3,q4,q5,q6,q7,_⟩:=C.ex;rw[N] at O;injection O with O
 subst O;have X:z.cells.size=y.size:=by rw[<-Array.length_toList,<-(q7 (λ_=>none)).len,C.zlen]
 obtain⟨v',w',r1,r2,r3,r4,D⟩:=run_append_own_at (P:=P) w n0 ts ty e info z y.size y.bytes hd N q6 ad ac X (by omega) V n xs J ⟨b,U,none⟩ q c2 I ab (λj u hu=>by rw[add_eq];exact ah j u hu) h1 (by unfold maxLen;omega) (by
  have:(n+q)*y.bytes<=100000*1000:=Nat.mul_le_mul L ai;omega) aa
 rcases r2.2 with⟨e1,e2⟩|⟨g,c,cur,rfl,aj,hg,Z,af,ae,Y⟩
 ·omega
 ·refine⟨g,c,cur,w',r1,aj,(Array.getElem?_eq_some_iff.1 hg).1,?_,Z,af,hg,ae,Y,r3⟩;simp only[Value.ownBlock] at D;rcases D with D|D
  ·exact .inl D
  ·exact .inr (by simpa using D)
theorem ZlO{ts X e:Nat}{C:TI}(hd:P.underlying ts=some (.slice e))(ah:P.underlying X=some (.int .i64))(I:TyOk P e C)(ak:C.bytes=1)(j:C.size=1)(ty:TypeId){V:Value}{n:Nat}{xs:List Value}(u:w.ownsRow n0 e C.size V n xs)
 {m:Nat} (y:n+m<=100000) (O:0<m) (ad:n0<=w.heap.size):
 ∃g c cur w' z,(Builtin.append_ #[ts,X] ty #[V,.int .i64 m]).run P w=.ok (.slice (some ⟨g,0,none⟩) (n+m) c) w'/\n0<=g/\g<w'.heap.size/\(some g=V.ownBlock\/g=w.heap.size)/\n+m<=c/\c<=maxLen/\
  w'.heap[g]?=some (.cells cur e (0,0))/\cur.size=c*C.size/\cur.toList.take ((n+m)*C.size)=xs++zeros [z] m/\w.grownBy w' V.ownBlock/\(∀ρ,LR ρ C.zero [z]):=by
 obtain⟨info,U,af,ae⟩:=I.info;obtain⟨Z,desc,z,W,q2,q3,q4,q5,q6,Y,_⟩:=I.ex;rw[U] at W;injection W with W
 subst W;have aa:z.cells.toList.length=1:=by rw[<-(Y (λ_=>none)).len,I.zlen,j]
 obtain⟨q,D⟩:∃q,z.cells=#[q]:=by
  match hz:z.cells.toList,aa with
  |[q],_=>exact⟨q,by apply Array.ext';rw[hz]⟩
 have N:q.oneCell'=true:=by
  have:=Y (λ_=>none);rw[D] at this;exact LR.one' this q (by simp)
 rw[j] at u;obtain⟨v',w',r1,r2,r3,J⟩:=Zv7 (P:=P) w n0 ts X ty e info z q hd ah U q6 (af.trans j) (ae.trans ak) D N V n xs u m O y ad;have L:List.replicate m q=zeros [q] m:=by
  clear r1 r2 r3 y O;induction m with
  |zero=>rfl
  |succ m ih=>rw[List.replicate_succ,zeros,ih];rfl
 rcases r2.2 with⟨e1,e2⟩|⟨g,c,cur,rfl,am,hg,ac,aj,ai,ab⟩
 ·omega
 ·refine⟨g,c,cur,w',q,r1,am,(Array.getElem?_eq_some_iff.1 hg).1,(by
   simp only[Value.ownBlock] at J;rcases J with J|J
   ·exact .inl J
   ·exact .inr (by simpa using J)),ac,aj,hg,by rw[j];exact ai,by rw[j,ab,L],r3,λρ=>?_⟩
  have:=Y ρ;rw[D] at this;exact this
theorem Ztx(hE:∀t ti,E.ty t=some ti->TyOk P t ti)(ht:TR ρ t a)(L:IV n0 w0 ρ nx h w)(hf:fr<nx)(hn:ρ fr=none){c:Call}(hc:c.callee=.builtin .append)(ho:o.op=.call c){ts tx:Nat}{s x:Operand}(ac:c.argTypes.toList=[ts,tx])(ad:c.args.toList=[s,x])
 {h':Hp} (u:ZiU E fr t h ts tx s x=some (v,h')):ZaO P n0 w0 ρ nx fr a o v h' w:=by
 unfold ZiU at u;obtain⟨ti,h1,u⟩:=Zc u;obtain⟨tj,aR,u⟩:=Zc u;obtain⟨d,am,W⟩:=(hE _ _ h1).und;obtain⟨dn,ah,V⟩:=(hE _ _ aR).und;split at u
 case h_2=>cases u
 rename_i e hk aL
 rw[hk] at W;rw[aL] at V;cases d<;>first|exact W.elim|skip
 cases dn<;>first|exact V.elim|skip
 have aO:e=_:=W;subst aO;have aI:IntKind.i64=_:=V;subst aI;obtain⟨te,h2,u⟩:=Zc u;have ao:=hE _ _ h2;obtain⟨xv,h3,u⟩:=Zc u;split at u
 case h_2=>cases u
 rename_i m
 have hX:a.eval x=.int .i64 m:=Zl ht h3;split at u
 case isFalse=>cases u
 rename_i C
 have an:c.argTypes=#[ts,tx]:=by apply Array.ext';simpa using ac
 have Y:c.args.map a.eval=#[a.eval s,a.eval x]:=by apply Array.ext';simp[ad]
 have J:execOp a.eval o=(do let v<-Builtin.append_ #[ts,tx] o.type #[a.eval s,a.eval x];pure (.value v)):=by
  unfold execOp;simp only[ho,resolve,hc,Y,an];rfl
 clear ho hc ac ad;split at u
 ·rename_i hs
  have hS:a.eval s=.slice none 0 0:=Zl ht hs;simp only[Option.some.injEq,Prod.mk.injEq] at u;obtain⟨rfl,rfl⟩:=u;obtain⟨g,c,cur,w',z,r1,r2,r3,r4,r5,r6,r7,r8,O,q,U⟩:=ZlO (n0:=n0) am ah ao C.1 C.2.1 o.type (World.ownsRow_nil w n0 e te.size) (by omega:0+m<=100000) C.2.2.1 L.size;rw[Nat.zero_add] at r1 r5 O;have I:=Rho.put_le (x:=(g,c)) hn;have hg:g=w.heap.size:=by
   rcases r4 with r4|r4
   ·simp[Value.ownBlock] at r4
   ·exact r4
  refine Zdr (ρ':=ρ.put fr (g,c)) (w':=w') J ⟨g,c,0,Rho.put_self,by omega,λ_=>rfl,rfl⟩ (by rw[hS,hX];exact r1)
   (L.grow hf hn (λy Z=>Z) q.os q.tape q.output q.size (b0:=g) r2 r2 r3 (λk hk bd _=>q.block k hk (by simp[Value.ownBlock])) (λy Z b c' hb=>by have:=(L.rng _ _ _ hb).2;omega)
    ⟨zeros [z] m,cur.toList.drop (m*te.size),(0,0),?_,((U ρ).zeros m).mono (VR.mono I),by simp,?_,λj _ hj=>by omega,λ_=>rfl,λ_=>r6⟩) I (λj hj=>Rho.put_ne hj)
  ·rw[r7];congr 2
   rw[List.nil_append] at O;rw[<-O,List.take_append_drop]
  ·rw[List.nil_append] at O;rw[<-O,List.take_append_drop,Array.length_toList,r8]
 ·rename_i j aE len cut hs
  obtain⟨b,cc,o',hb,be,aH,hS⟩:AR ρ (.c (.sl j aE len cut)) (a.eval s):=Zl ht hs;split at u
  case h_2=>cases u
  rename_i l e' z' k ai
  split at u
  case isFalse=>cases u
  rename_i X
  simp only[Zfc,Option.some.injEq,Prod.mk.injEq] at u;obtain⟨rfl,rfl⟩:=u;obtain⟨k1,k2,k3,k4,k5,k6,k7⟩:=X;subst k2 k3 k6 k7;have aN:o'=0:=aH (.inr rfl);subst aN;obtain⟨b4,c4,q1,m0,rest,fz,q2,q3,q4,q5,q6,q7,q8⟩:=L.ob _ (Zbq ai);simp only at q1;rw[q1] at hb;injection hb with hb
  injection hb with hb N
  subst hb N;have aM:=q7 k1;subst aM;have D:m0.length=len*te.size:=by rw[<-q3.len,k4]
  have aP:c4<=maxLen:=by
   by_cases aK:k=1
   ·exact q8 aK
   ·have hr:=q4 (by omega);subst hr;rw[List.append_nil,D] at q5;have:c4=len:=(Nat.eq_of_mul_eq_mul_right (by omega) q5).symm;unfold maxLen;omega
  have ae:w.ownsRow n0 e' te.size (.slice (some ⟨b4,0,none⟩) len (c4 - 0)) len m0:=by
   refine⟨D,.inr ⟨b4,c4,(m0++rest).toArray,rfl,(L.rng _ _ _ q1).1,q2,by omega,aP,by simpa using q5,?_⟩⟩;rw[<-D];simp
  obtain⟨g,c,cur,w',z,r1,r2,r3,r4,r5,r6,r7,r8,O,q,U⟩:=ZlO (n0:=n0) am ah ao C.1 C.2.1 o.type ae k5 C.2.2.1 L.size;have aG:Value.ownBlock (.slice (some ⟨b4,0,none⟩) len (c4 - 0))=some b4:=rfl;rw[aG] at r4 q;have I:=Rho.put_le (x:=(g,c)) hn;refine Zdr (ρ':=ρ.put fr (g,c)) (w':=w') J ⟨g,c,0,Rho.put_self,by omega,λ_=>rfl,rfl⟩ (by rw[hS,hX];exact r1)
   (L.grow hf hn (λy Z=>(Ze5 Z).1) q.os q.tape q.output q.size (b0:=b4) (L.rng _ _ _ q1).1 r2 r3 (λk hk _ aJ=>q.block k hk (by simpa using aJ)) ?_
    ⟨m0++zeros [z] m,cur.toList.drop ((len+m)*te.size),(0,0),?_,(q3.app ((U ρ).zeros m)).mono (VR.mono I),by simp,?_,λj _ hj=>by omega,λ_=>rfl,λ_=>r6⟩) I (λj hj=>Rho.put_ne hj)
  ·intro y Z b' c' N;obtain⟨y1,y2⟩:=Ze5 Z;have af:=L.inj y y1 _ (Zbq ai) y2 _ _ _ _ N q1;refine⟨?_,af⟩;rcases r4 with r4|r4
   ·injection r4 with r4;rw[r4];exact af
   ·have:=(L.rng _ _ _ N).2;omega
  ·rw[r7];congr 2
   rw[<-O,List.take_append_drop]
  ·rw[<-O,List.take_append_drop,Array.length_toList,r8]
 ·cases u
theorem Zty(hE:∀t ti,E.ty t=some ti->TyOk P t ti)(hG:GOk E n0 w0)(ht:TR ρ t a)(I:IV n0 w0 ρ nx h w)(hf:fr<nx)(hn:ρ fr=none){c:Call}(hc:c.callee=.builtin .append)(ho:o.op=.call c){h':Hp}(q:eff E fr t h o.op=some (v,h')):
 ZaO P n0 w0 ρ nx fr a o v h' w:=by
 rw[ho] at q;simp only[eff,Zhc,hc] at q;split at q
 case h_2=>cases q
 rename_i ts tx s x am an
 split at q
 case isFalse=>exact Ztx hE ht I hf hn hc ho am an q
 rename_i aW
 subst aW;obtain⟨ti,h1,q⟩:=Zc q;obtain⟨d,U,ap⟩:=(hE _ _ h1).und;split at q
 case h_2=>cases q
 rename_i e hk
 rw[hk] at ap;cases d<;>first|exact ap.elim|skip
 have a3:e=_:=ap;subst a3;obtain⟨te,h2,q⟩:=Zc q;have aw:=hE _ _ h2;split at q
 case isFalse=>cases q
 rename_i D
 have aI:c.argTypes=#[ts,ts]:=by apply Array.ext';simpa using am
 have au:c.args.map a.eval=#[a.eval s,a.eval x]:=by apply Array.ext';simp[an]
 have u:execOp a.eval o=(do let v<-Builtin.append_ #[ts,ts] o.type #[a.eval s,a.eval x];pure (.value v)):=by
  unfold execOp;simp only[ho,resolve,hc,au,aI];rfl
 clear ho hc am an;obtain⟨info,ad,bv,bu⟩:=aw.info;split at q
 ·
  rename_i hs hx
  have hS:a.eval s=.slice none 0 0:=Zl ht hs;have hX:a.eval x=.slice none 0 0:=Zl ht hx;simp only[Option.some.injEq,Prod.mk.injEq] at q;obtain⟨rfl,rfl⟩:=q;refine ZcL u rfl ?_ I;simp[hS,hX,Builtin.append_,run_und U,sizeOf,run_ti ad,Builtin.lenOf,Builtin.firstCells]
 ·rename_i i N len cut hs hx
  obtain⟨b,Z,o',hb,ae,O,hS⟩:AR ρ (.c (.sl i N len cut)) (a.eval s):=Zl ht hs;have hX:a.eval x=.slice none 0 0:=Zl ht hx;simp only[Option.some.injEq,Prod.mk.injEq] at q;obtain⟨rfl,rfl⟩:=q;refine ZcL (V:=.slice (some ⟨b,o',none⟩) len (Z - cut)) u ⟨b,Z,o',hb,ae,O,rfl⟩ ?_ I;have:len<=Z - cut:=by omega
  simp[hS,hX,Builtin.append_,run_und U,sizeOf,run_ti ad,Builtin.lenOf,Builtin.firstCells,this,storeCells]
 ·rename_i i N len cut hs hx
  have hS:a.eval s=.slice none 0 0:=Zl ht hs;obtain⟨b,Z,o',hb,ae,O,hX⟩:AR ρ (.c (.sl i N len cut)) (a.eval x):=Zl ht hx;split at q
  ·rename_i hz
   subst hz;simp only[Option.some.injEq,Prod.mk.injEq] at q;obtain⟨rfl,rfl⟩:=q;refine ZcL u rfl ?_ I;simp[hS,hX,Builtin.append_,run_und U,sizeOf,run_ti ad,Builtin.lenOf,Builtin.firstCells,loadCells,loadCellsFrom]
  ·rename_i hz
   split at q
   case isFalse=>cases q
   rename_i ba
   obtain⟨l,h3,q⟩:=Zc q;simp only[Option.some.injEq,Prod.mk.injEq] at q;obtain⟨rfl,rfl⟩:=q;have Y:o'=N:=O (.inl hz);subst Y;obtain⟨b2,o2,m,L,ao,hl,J⟩:=Zeo (x:=.c (.p i o')) hG I ⟨b,Z,hb,rfl⟩ h3;injection L with L
   injection L with L
   injection L with L e3
   subst L e3;obtain⟨g,c,cur,w',r1,r2,r3,r4,r5,r6,r7,r8,r9,C⟩:=ZlN (n0:=n0) (c2:=Z - cut) U aw D.1 D.2 o.type (World.ownsRow_nil w n0 e te.size) ao J (LR.one' hl) (by omega) hz I.size;rw[Nat.zero_add] at r1 r5 r9;have hg:g=w.heap.size:=by
    rcases r4 with r4|r4
    ·simp[Value.ownBlock] at r4
    ·exact r4
   have X:=Rho.put_le (x:=(g,c)) hn;refine Zdr (ρ':=ρ.put fr (g,c)) (w':=w') u ⟨g,c,0,Rho.put_self,by omega,λ_=>rfl,rfl⟩ (by rw[hS,hX];exact r1)
    (I.grow hf hn (λy hy=>hy) C.os C.tape C.output C.size (b0:=g) r2 r2 r3 (λk hk bt _=>C.block k hk (by simp[Value.ownBlock])) (λy hy b c' hb=>by have:=(I.rng _ _ _ hb).2;omega)
     ⟨m,cur.toList.drop (len*te.size),(0,0),?_,hl.mono (VR.mono X),by simp,?_,λj _ hj=>by omega,λ_=>rfl,λ_=>r6⟩) X (λj hj=>Rho.put_ne hj)
   ·rw[r7];congr 2
    rw[List.nil_append] at r9;rw[<-r9,List.take_append_drop]
   ·rw[List.nil_append] at r9;rw[<-r9,List.take_append_drop,Array.length_toList,r8]
 ·rename_i j N len cut i o2 aj Z4 hs hx
  obtain⟨b,Z,o',hb,ae,O,hS⟩:AR ρ (.c (.sl j N len cut)) (a.eval s):=Zl ht hs;obtain⟨b2,aJ,aA,a5,bc,aC,hX⟩:AR ρ (.c (.sl i o2 aj Z4)) (a.eval x):=Zl ht hx;split at q
  ·rename_i hz
   subst hz;simp only[Option.some.injEq,Prod.mk.injEq] at q;obtain⟨rfl,rfl⟩:=q;refine ZcL (V:=.slice (some ⟨b,o',none⟩) len (Z - cut)) u ⟨b,Z,o',hb,ae,O,rfl⟩ ?_ I;have:len<=Z - cut:=by omega
   simp[hS,hX,Builtin.append_,run_und U,sizeOf,run_ti ad,Builtin.lenOf,Builtin.firstCells,this,storeCells,loadCells,loadCellsFrom]
  ·rename_i hz
   obtain⟨l2,h3,q⟩:=Zc q;split at q
   case h_2=>cases q
   rename_i l e' z k aE
   split at q
   case isFalse=>cases q
   rename_i aq
   simp only[Zfc,Option.some.injEq,Prod.mk.injEq] at q;obtain⟨rfl,rfl⟩:=q;obtain⟨k1,k2,k3,k4,k5,k6,k7⟩:=aq;subst k2 k3 k6 k7;have Y:aA=o2:=aC (.inl hz);subst Y;have Y:o'=0:=O (.inr rfl);subst Y;obtain⟨b3,o3,m2,L,ao,aF,J⟩:=Zeo (x:=.c (.p i aA)) hG I ⟨b2,aJ,a5,rfl⟩ h3;injection L with L
   injection L with L
   injection L with L e3
   subst L e3;obtain⟨b4,c4,q1,m,rest,fz,q2,q3,q4,q5,q6,q7,q8⟩:=I.ob _ (Zbq aE);simp only at q1;rw[q1] at hb;injection hb with hb
   injection hb with hb af
   subst hb af;have a1:=q7 k1;subst a1;have W:m.length=len*te.size:=by rw[<-q3.len,k4]
   have a4:c4<=maxLen:=by
    by_cases aZ:k=1
    ·exact q8 aZ
    ·have hr:=q4 (by omega);subst hr;rw[List.append_nil,W] at q5;have:c4=len:=(Nat.eq_of_mul_eq_mul_right (Nat.pos_of_ne_zero D.2) q5).symm;unfold maxLen;omega
   have aB:w.ownsRow n0 e' te.size (.slice (some ⟨b4,0,none⟩) len (c4 - 0)) len m:=by
    refine⟨W,.inr ⟨b4,c4,(m++rest).toArray,rfl,(I.rng _ _ _ q1).1,q2,by omega,a4,by simpa using q5,?_⟩⟩;rw[<-W];simp
   obtain⟨g,c,cur,w',r1,r2,r3,r4,r5,r6,r7,r8,r9,C⟩:=ZlN (n0:=n0) (c2:=aJ - Z4) U aw D.1 D.2 o.type aB ao J (LR.one' aF) k5 hz I.size;have aX:Value.ownBlock (.slice (some ⟨b4,0,none⟩) len (c4 - 0))=some b4:=rfl;rw[aX] at r4 C;have X:=Rho.put_le (x:=(g,c)) hn;refine Zdr (ρ':=ρ.put fr (g,c)) (w':=w') u ⟨g,c,0,Rho.put_self,by omega,λ_=>rfl,rfl⟩ (by rw[hS,hX];exact r1)
    (I.grow hf hn (λy hy=>(Ze5 hy).1) C.os C.tape C.output C.size (b0:=b4) (I.rng _ _ _ q1).1 r2 r3 (λk hk _ aY=>C.block k hk (by simpa using aY)) ?_
     ⟨m++m2,cur.toList.drop ((len+aj)*te.size),(0,0),?_,(q3.app aF).mono (VR.mono X),by simp,?_,λj _ hj=>by omega,λ_=>rfl,λ_=>r6⟩) X (λj hj=>Rho.put_ne hj)
   ·intro y hy b' c' af;obtain⟨y1,y2⟩:=Ze5 hy;have aD:=I.inj y y1 _ (Zbq aE) y2 _ _ _ _ af q1;refine⟨?_,aD⟩;rcases r4 with r4|r4
    ·injection r4 with r4;rw[r4];exact aD
    ·have:=(I.rng _ _ _ af).2;omega
   ·rw[r7];congr 2
    rw[<-r9,List.take_append_drop]
   ·rw[<-r9,List.take_append_drop,Array.length_toList,r8]
 ·cases q
end
end Ev
namespace Ev
section
variable {P:Program} {E:Env} {n0:Nat} {w0 w:World} {ρ:Rho} {nx fr:Nat} {h:Hp} {t:List AV} {a:Act} {o:Oper} {v:AV}
theorem ZnR:∀{l:List Cl} {r:List UInt8} {m:List Value},ofBytes l=some r->LR ρ l m->m=(r.map λu=>(u.toNat:Int)).map (Value.int .u8)
 |[],r,m,h,q=>by
  simp only[ofBytes,Option.some.injEq] at h;subst h
  match m,q with
  |[],_=>rfl
 |c::l,r,m,h,q=>by
  unfold ofBytes at h;split at h
  ·rename_i j;cases j
  ·rename_i n D j
   injection j with e1 e2
   subst e1 e2;split at h
   ·rename_i hn
    obtain⟨C,y,h⟩:=Zc h;injection h with h;subst h
    match m,q with
    |x::m,q=>
     have e:=ZnR y q.2;have e0:x=.int .u8 (Int.ofNat n):=q.1;subst e0;rw[e];simp only[List.map_cons];congr 2
     simp;omega
   ·cases h
  ·cases h
theorem ZoE:∀(r acc:List UInt8),(r.map λu=>(u.toNat:Int)).foldl (λs n=>s.push (UInt8.ofNat n.toNat)) (Bs acc)=Bs (acc++r)
 |[],acc=>by simp
 |u::r,acc=>by
  simp only[List.map_cons,List.foldl_cons];have e:(Bs acc).push (UInt8.ofNat ((u.toNat:Int)).toNat)=Bs (acc++[u]):=by
   simp[Bs,ByteArray.push]
  rw[e,ZoE r (acc++[u])];simp
theorem Zl2:∀l:List UInt8,LR ρ (ZiG l) (l.map λb=>Value.int .u8 b.toNat)
 |[]=>trivial
 |_::l=>⟨rfl,Zl2 l⟩
theorem Zwh(e:TypeId)(l:List UInt8)(w:World):∃(rest:List Value) (w':World) (cap:Nat),(Conv.stringToBytes e (Bs l)).run P w=.ok (.slice (some ⟨w.heap.size,0,none⟩) l.length cap) w'/\l.length<=cap/\True/\
 w'.os=w.os/\w'.tape=w.tape/\w'.output=w.output/\w'.heap.size=w.heap.size+1/\(∀k,k<w.heap.size->w'.heap[k]?=w.heap[k]?)/\
 w'.heap[w.heap.size]?=some (.cells ((l.map λb=>Value.int .u8 b.toNat)++rest).toArray e (cap,cap+1))/\((l.map λb=>Value.int .u8 b.toNat)++rest).length=cap:=by
 obtain⟨cap,C⟩:∃cap,cap=(Question.appendCap (Bs l).size 0 e).cut (w.tape w.drawn (.appendCap (Bs l).size 0 e)):=⟨_,rfl⟩
 have O:l.length<=cap:=by
  rw[C];simp[Question.cut,Zb6]
 obtain⟨rest,q⟩:∃rest,rest=List.replicate (cap - l.length) (Value.int .u8 0):=⟨_,rfl⟩
 have y:((l.map λb=>Value.int .u8 b.toNat)++rest).length=cap:=by rw[q];simp;omega
 obtain⟨u,j⟩:∃u,u=(({w with drawn:=w.drawn+1}:World).alloc (.cells ((l.map λb=>Value.int .u8 b.toNat)++rest).toArray e)):=⟨_,rfl⟩
 have V:u.heap[w.heap.size]?=some (.cells ((l.map λb=>Value.int .u8 b.toNat)++rest).toArray e (0,0)):=by
  rw[j];exact Zg1 ({w with drawn:=w.drawn+1}:World) _
 have X:∀k,k<w.heap.size->u.heap[k]?=w.heap[k]?:=λk I=>by
  rw[j];exact alloc_old ({w with drawn:=w.drawn+1}:World) _ I
 have W:u.heap.size=w.heap.size+1:=by rw[j];simp
 have J:∀k,(u.freeze ⟨w.heap.size,cap,none⟩ 1).heap[k]?=if k=w.heap.size then some (.cells ((l.map λb=>Value.int .u8 b.toNat)++rest).toArray e (cap,cap+1)) else u.heap[k]?:=by
  intro k;unfold World.freeze;simp only[Nat.one_ne_zero,if_false,Array.getElem?_modify];by_cases I:w.heap.size=k
  ·subst I;rw[if_pos rfl,if_pos rfl,V];rfl
  ·rw[if_neg I,if_neg (λe=>I e.symm)]
 refine⟨rest,u.freeze ⟨w.heap.size,cap,none⟩ 1,cap,?_,O,trivial,?_,?_,?_,?_,?_,?_,y⟩
 ·have U:(choose (.appendCap (Bs l).size 0 e)).run P w=.ok cap {w with drawn:=w.drawn+1}:=by
   rw[C];simp[choose,Sem.run,Question.forced]
  have N:u.shape? w.heap.size=some (e,cap):=by
   unfold World.shape?;rw[V];simp only[List.size_toArray,y]
  have L:((Bs l).data.map (λb=>Value.int .u8 b.toNat)++Array.replicate (cap - (Bs l).size) (Value.int .u8 0))=((l.map λb=>Value.int .u8 b.toNat)++rest).toArray:=by
   rw[q];apply Array.ext'
   simp[Bs,ByteArray.size]
  simp only[Conv.stringToBytes,Sem.run_bind,U,Result.andThen_ok,L,ZeF];show((markStringish ⟨w.heap.size,0,none⟩).run P (({w with drawn:=w.drawn+1}:World).alloc _)).andThen _=_
  rw[<-j];have D:(markStringish ⟨w.heap.size,0,none⟩).run P u=.ok () (u.freeze ⟨w.heap.size,cap,none⟩ 1):=by
   simp[markStringish,shape,freeze,Sem.run,N]
  rw[D];simp only[Result.andThen_ok,Sem.run_pure,Zb6]
 ·unfold World.freeze;rw[j];rfl
 ·unfold World.freeze;rw[j];rfl
 ·unfold World.freeze;rw[j];rfl
 ·unfold World.freeze;simp only[Nat.one_ne_zero,if_false,Array.size_modify];exact W
 ·intro k I;rw[J,if_neg (by omega),X k I]
 ·rw[J,if_pos rfl]
theorem ZtB(hE:∀t ti,E.ty t=some ti->TyOk P t ti)(hG:GOk E n0 w0)(ht:TR ρ t a)(hI:IV n0 w0 ρ nx h w)(hf:fr<nx)(hn:ρ fr=none){s d:Nat}{x:Operand}(ho:o.op=.convert s d x){h':Hp}(q:eff E fr t h o.op=some (v,h')):
 ZaO P n0 w0 ρ nx fr a o v h' w:=by
 rw[ho] at q;simp only[eff,Zmw] at q;obtain⟨ts,h1,q⟩:=Zc q;obtain⟨td,h2,q⟩:=Zc q;obtain⟨ds,W,D⟩:=(hE _ _ h1).und;obtain⟨dd,aa,J⟩:=(hE _ _ h2).und;have I:execOp a.eval o=(do let v<-convert s d (a.eval x);pure (.value v)):=by
  unfold execOp;simp only[ho]
 split at q
 ·rename_i e e1 L hx
  rw[e1] at D;rw[L] at J;cases ds<;>first|exact D.elim|skip
  cases dd<;>first|exact J.elim|skip
  have V:e=_:=D;subst V;have hX:a.eval x=.slice none 0 0:=Zl ht hx;obtain⟨te,h3,q⟩:=Zc q;obtain⟨de,O,C⟩:=(hE _ _ h3).und;split at q
  ·rename_i Z
   rw[Z] at C;cases de<;>first|exact C.elim|skip
   have N:IntKind.u8=_:=C;subst N;simp only[Option.some.injEq,Prod.mk.injEq] at q;obtain⟨rfl,rfl⟩:=q;exact ZcL I rfl (by simp[convert,run_und W,run_und aa,run_und O,hX,Conv.bytesToString,Bs];rfl) hI
  ·cases q
 ·rename_i e i U len cut e1 L hx
  rw[e1] at D;rw[L] at J;cases ds<;>first|exact D.elim|skip
  cases dd<;>first|exact J.elim|skip
  have V:e=_:=D;subst V;obtain⟨b,cc,o',hb,aS,ap,hX⟩:AR ρ (.c (.sl i U len cut)) (a.eval x):=Zl ht hx;obtain⟨te,h3,q⟩:=Zc q;obtain⟨de,O,C⟩:=(hE _ _ h3).und;split at q
  ·rename_i Z ao
   rw[Z] at C;cases de<;>first|exact C.elim|skip
   have N:IntKind.u8=_:=C;subst N;obtain⟨l,h4,q⟩:=Zc q;obtain⟨r,h5,q⟩:=Zc q;simp only[Option.some.injEq,Prod.mk.injEq] at q;obtain⟨rfl,rfl⟩:=q;obtain⟨b2,o2,m,L,af,hl,ab⟩:=Zeo (x:=.c (.p i U)) (X:=.pointer (some ⟨b,U,none⟩)) hG hI ⟨b,cc,hb,rfl⟩ h4;injection L with L
   injection L with L
   injection L with L e3
   subst L e3;have hm:=ZnR h5 hl;have Y:(loadCells ⟨b,o',none⟩ len).run P w=.ok ((r.map λu=>(u.toNat:Int)).map (Value.int .u8)).toArray w:=by
    by_cases hz:len=0
    ·subst hz;have:m=[]:=List.eq_nil_of_length_eq_zero af;rw[this] at hm;rw[<-hm];rfl
    ·rw[ap (.inl hz),<-hm,<-af];exact ZoN b U m w ab
   have hr:=run_bytesToString w ⟨b,o',none⟩ len (cc - cut) (r.map λu=>(u.toNat:Int)) Y;have hp:=ZoE r [];rw[List.nil_append] at hp;have he:ByteArray.empty=Bs []:=rfl;rw[he,hp] at hr;refine ZcL I rfl ?_ hI;simp only[convert,Sem.run_bind,run_und W,run_und aa,Result.andThen_ok,hX,run_und O];exact hr
  ·cases q
 ·rename_i e l e1 L hx
  rw[e1] at D;rw[L] at J;cases ds<;>first|exact D.elim|skip
  cases dd<;>first|exact J.elim|skip
  have ax:e=_:=J;subst ax;have hX:a.eval x=.string (Bs l):=Zl ht hx;obtain⟨te,h3,q⟩:=Zc q;obtain⟨de,O,C⟩:=(hE _ _ h3).und;split at q
  ·rename_i Z ao
   rw[Z] at C;cases de<;>first|exact C.elim|skip
   have N:IntKind.u8=_:=C;subst N;split at q
   ·rename_i aJ
    simp only[Option.some.injEq,Prod.mk.injEq] at q;obtain⟨rfl,rfl⟩:=q;obtain⟨aA,w',cap,r1,r2,r3,r4,r5,r6,r7,r8,r9,ad⟩:=Zwh (P:=P) e l w;have au:=Rho.put_le (x:=(w.heap.size,cap)) hn;refine Zdr (ρ':=ρ.put fr (w.heap.size,cap)) (w':=w') I ⟨w.heap.size,cap,0,Rho.put_self,by omega,λ_=>rfl,rfl⟩ ?_
     (hI.grow (b0:=w.heap.size) hf hn (λy hy=>hy) r4 r5 r6 (by omega) hI.size hI.size (by omega) (λk Z _ _=>r8 k Z) (λy hy b c' hb=>by have:=(hI.rng _ _ _ hb).2;omega)
      ⟨l.map λb=>Value.int .u8 b.toNat,aA,_,r9,Zl2 l,by simp,by rw[ad];omega,λj hj q=>by simp only[ad] at hj q;omega,by simp,by simp⟩) au (λj hj=>Rho.put_ne hj)
    simp only[convert,Sem.run_bind,run_und W,run_und aa,Result.andThen_ok,hX,run_und O];exact r1
   ·cases q
  ·cases q
 ·cases q
end
end Ev
namespace Ev
def ZdI(P:Program)(t:Nat)(j:TI):Prop:=∀(l:List Cl) (L:List Value) (ρ:Rho) (q:Bool),shp j.zero l=true->LR ρ l L->∀w,(Instr.checkKey q 10000 t (.agg L.toArray)).run P w=.ok () w
section
variable {P:Program} {E:Env} {n0:Nat} {w0 w:World} {ρ:Rho} {nx fr:Nat} {h:Hp} {t:List AV} {a:Act} {o:Oper} {v:AV}
theorem AR.a0{u:AV}{z:A0}{V:Value}(h:AR ρ u V)(j:u.a0=some z):A0R ρ z V:=by
 cases u with
 |c x=>simp only[AV.a0,Option.some.injEq] at j;subst j;exact h
 |a l=>simp only[AV.a0,Option.some.injEq] at j;subst j;exact h
 |t l=>simp[AV.a0] at j
theorem ZiH{kt:Nat}{C:TI}(hT:TyOk P kt C){q:Bool}(hK:q=true->ZdI P kt C){k:A0}{K:Value}(J:A0R ρ k K)(j:Zat C q k=true)(I:Bool)(w:World):(Instr.checkKey I 10000 kt K).run P w=.ok () w:=by
 obtain⟨d,D,y⟩:=hT.und;have key:∀(n:Nat) (X:Value),(∀t v,X≠ .iface t v)->X≠ .nilIface->(∀c,X≠ .agg c)->(match d with| .int _| .string=>True|_=>False)->(Instr.checkKey I (n+1) kt X).run P w=.ok () w:=by
  intro n X W V U hd;cases d<;>first|exact hd.elim|skip
  all_goals
   unfold Instr.checkKey;simp only[Sem.run_bind,run_und D,Result.andThen_ok];rfl
 unfold Zat at j;split at j
 ·rename_i O L n u
  rw[u] at y;cases d<;>first|exact y.elim|skip
  have e:K=.int L n:=J;subst e;exact key 9999 _ (by simp) (by simp) (by simp) trivial
 ·rename_i n e l u
  simp only[Bool.and_eq_true] at j;obtain⟨m,rfl,N⟩:=J;exact hK j.1 l m ρ I j.2 N w
 ·cases j
def Pr(ρ:Rho)(k:A0)(K:Value)(u:List (A0×A0))(L:List MapEntry)(i:Nat)(r:Option (Nat×Value)):Prop:=
 match Zcf k u with
 |none=>r=none/\∀q V n,A0R ρ q V->PW (MR ρ) (Zdz k q u) (L++[{key:=K,val:=V,born:=n}])
 |some x=>∃j V,r=some (i+j,V)/\A0R ρ x V/\(∃e:MapEntry,L[j]?=some e/\A0R ρ k e.key)/\∀q W,A0R ρ q W->PW (MR ρ) (Zdz k q u) (L.modify j λe=>{e with key:=K,val:=W})
theorem Pr.nil{k:A0}{K:Value}(q:A0R ρ k K)(i:Nat):Pr ρ k K [] [] i none:=by
 unfold Pr;exact⟨rfl,λu V n j=>⟨⟨q,j⟩,trivial⟩⟩
theorem Pr.hit{k:A0}{K:Value}(C:A0R ρ k K){e:A0×A0}{m:MapEntry}{q:List (A0×A0)}{L:List MapEntry}(he:e.1=k)(j:MR ρ e m)(y:PW (MR ρ) q L)(i:Nat):Pr ρ k K (e::q) (m::L) i (some (i,m.val)):=by
 unfold Pr;simp only[Zcf,if_pos he];refine⟨0,m.val,rfl,j.2,⟨m,rfl,by rw[<-he];exact j.1⟩,λD W u=>?_⟩;simp only[Zdz,if_pos he];exact⟨⟨C,u⟩,y⟩
theorem Pr.miss{k:A0}{K:Value}{e:A0×A0}{m:MapEntry}{C:List (A0×A0)}{L:List MapEntry}{r:Option (Nat×Value)}(he:e.1≠k)(D:MR ρ e m){i:Nat}(h:Pr ρ k K C L (i+1) r):Pr ρ k K (e::C) (m::L) i r:=by
 unfold Pr at*;simp only[Zcf,if_neg he];cases I:Zcf k C with
 |none=>
  rw[I] at h;exact⟨h.1,λq V n u=>by simp only[Zdz,if_neg he];exact⟨D,h.2 q V n u⟩⟩
 |some x=>
  rw[I] at h;obtain⟨j,V,U,O,⟨X,N,y⟩,J⟩:=h;refine⟨j+1,V,by rw[U];congr 2;omega,O,⟨X,by simpa using N,y⟩,λq W u=>?_⟩;simp only[Zdz,if_neg he,List.modify_succ_cons];exact⟨D,J q W u⟩
theorem ZmP{d:TypeDesc}{k:A0}{K:Value}(D:A0R ρ k K)(q:A0->Prop)(j:∀e m,A0R ρ e m->q e->Instr.sameNow d K m=some (decide (e=k))):
 ∀(C:List (A0×A0)) (L:List MapEntry) (i:Nat),PW (MR ρ) C L->(∀e∈C,q e.1)->∃r,Instr.findNow d K L i=some r/\Pr ρ k K C L i r
 |[],[],i,_,_=>⟨none,rfl,Pr.nil D i⟩
 |e::C,m::L,i,y,I=>by
  have hs:=j e.1 m.key y.1.1 (I e (by simp));obtain⟨r,J,r2⟩:=ZmP D q j C L (i+1) y.2 (λe he=>I e (by simp[he]));by_cases u:e.1=k
  ·refine⟨_,?_,Pr.hit D u y.1 y.2 i⟩;simp only[Instr.findNow,hs,u,decide_true]
  ·refine⟨r,?_,Pr.miss u y.1 r2⟩;simp only[Instr.findNow,hs,u,decide_false];exact J
 |[],_::_,_,h,_=>h.elim
 |_::_,[],_,h,_=>h.elim
theorem ZmO{kt:Nat}{k:A0}{K:Value}(D:A0R ρ k K)(q:A0->Prop)(j:∀e m,A0R ρ e m->q e->∀w,(Op.equal kt K m).run P w=.ok (decide (e=k)) w):
 ∀(C:List (A0×A0)) (L:List MapEntry) (i:Nat),PW (MR ρ) C L->(∀e∈C,q e.1)->∃r,(∀w,(Instr.findAsking kt K L i).run P w=.ok r w)/\Pr ρ k K C L i r
 |[],[],i,_,_=>⟨none,λw=>rfl,Pr.nil D i⟩
 |e::C,m::L,i,y,I=>by
  have hs:=j e.1 m.key y.1.1 (I e (by simp));obtain⟨r,J,r2⟩:=ZmO D q j C L (i+1) y.2 (λe he=>I e (by simp[he]));by_cases u:e.1=k
  ·refine⟨_,λw=>?_,Pr.hit D u y.1 y.2 i⟩;simp only[Instr.findAsking,Sem.run_bind,hs,Result.andThen_ok,u,decide_true,if_true,Sem.run_pure]
  ·refine⟨r,λw=>?_,Pr.miss u y.1 r2⟩;simp only[Instr.findAsking,Sem.run_bind,hs,Result.andThen_ok,u,decide_false,Bool.false_eq_true,if_false];exact J w
 |[],_::_,_,h,_=>h.elim
 |_::_,[],_,h,_=>h.elim
theorem ZmQ{kt:Nat}{y:TI}(hT:TyOk P kt y){q:Bool}(hQ:q=true->Zdi P kt y){k:A0}{K:Value}(hk:A0R ρ k K)(Y:Zat y q k=true)
 (D:List (A0×A0)) (L:List MapEntry) (hL:PW (MR ρ) D L) (aa:(D.all λe=>Zat y q e.1)=true):
 ∃r,(∀w,(Instr.findKey kt K L).run P w=.ok r w)/\Pr ρ k K D L 0 r:=by
 obtain⟨d,U,C⟩:=hT.und;have X:∀e∈D,Zat y q e.1=true:=List.all_eq_true.1 aa;have V:(∀e m,A0R ρ e m->Zat y q e=true->Instr.sameNow d K m=some (decide (e=k)))->∃r,(∀w,(Instr.findKey kt K L).run P w=.ok r w)/\Pr ρ k K D L 0 r:=by
  intro hs;obtain⟨r,r1,r2⟩:=ZmP hk (λe=>Zat y q e=true) hs D L 0 hL X;exact⟨r,λw=>by simp only[Instr.findKey,Sem.run_bind,run_und U,Result.andThen_ok,r1,Sem.run_pure],r2⟩
 cases u:y.k<;>rw[u] at C<;>first|(unfold Zat at Y;rw[u] at Y;simp at Y;done)|skip
 ·rename_i kk
  cases d<;>first|exact C.elim|skip
  have ak:kk=_:=C;subst ak;have j:∀e,Zat y q e=true->∃n,e=.c (.i kk n):=by
   intro e he;cases e with
   |c x=>
    cases x<;>simp[Zat,u] at he
    rename_i kj n
    exact⟨n,by rw[he]⟩
   |a l=>simp[Zat,u] at he
  obtain⟨n,rfl⟩:=j k Y;refine V λe m O he=>?_;obtain⟨n',rfl⟩:=j e he;have e1:K=.int kk n:=hk;have e2:m=.int kk n':=O;subst e1 e2;simp only[Instr.sameNow,if_true];congr 1
  by_cases J:n=n'
  ·subst J;simp
  ·have:¬n'=n:=λe=>J e.symm;simp[J,this]
 ·rename_i n e
  cases d<;>first|exact C.elim|skip
  have j:∀e,Zat y q e=true->q=true/\∃l,e=.a l/\shp y.zero l=true:=by
   intro e he;cases e with
   |c x=>cases x<;>simp[Zat,u] at he
   |a l=>
    simp[Zat,u] at he;exact⟨he.1,l,rfl,he.2⟩
  obtain⟨ai,l,rfl,W⟩:=j k Y;obtain⟨M,rfl,hM⟩:=hk;have Z:A0R ρ (.a l) (.agg M.toArray):=⟨M,rfl,hM⟩
  match D,L,hL,X with
  |[],[],hL,X=>exact⟨none,λw=>by simp only[Instr.findKey,Sem.run_bind,run_und U,Result.andThen_ok,Instr.findNow,Sem.run_pure],Pr.nil Z 0⟩
  |e0::D,m0::L,hL,X=>
   obtain⟨r,r1,r2⟩:=ZmO (P:=P) (kt:=kt) Z (λe=>Zat y q e=true) (λe m O he w=>by
    obtain⟨_,l',rfl,ah⟩:=j e he;obtain⟨M',rfl,am⟩:=O;have:=((hQ ai) l l' M M' ρ W ah hM am).1 w;rw[this];congr 1
    by_cases N:l=l'
    ·subst N;simp
    ·have h2:¬l'=l:=λe=>N e.symm;simp[N,h2]) (e0::D) (m0::L) 0 hL X
   refine⟨r,λw=>?_,r2⟩;have I:∀i,Instr.findNow (.array n e) (.agg M.toArray) (m0::L) i=none:=λi=>by simp[Instr.findNow,Instr.sameNow]
   obtain⟨rfl,rfl⟩:=C;simp only[Instr.findKey,Sem.run_bind,run_und U,Result.andThen_ok,I];exact r1 w
  |[],_::_,h,_=>exact h.elim
  |_::_,[],h,_=>exact h.elim
end
end Ev
