/- Lemmas for a statement on the tops; conditions: as each says. -/
import Derived.Sort.OwnSortedInts
import Derived.Lib.AppendZeros
import Derived.Shelf.SlSortCmp.NoneTotal
import Derived.Test.YtjilfbhkdjanhaaGreatDoorM4
import Derived.Test.YtjilfbhkdjanhaaGreatDoorM22
set_option linter.all false
set_option maxRecDepth 100000
set_option maxHeartbeats 4000000
open Go.Proofs.Tryz
namespace Go.Proofs.YtjilfbhkdjanhaaGreatDoor
open Go Go.RowKit
def Zs7(x y:Rw×Sl)(W:World):
 Calls prog 348 #[.agg (rV x).toArray,.agg (rV y).toArray] W λe w'=>e=.returned (.int .i64 (Lib.compareInt (x.1.1:Int) (y.1.1:Int)))/\∃q u,w'=Go.Sort.grow (W.drewN q) u:=by
 have j:=λC=>Tryz.cmp_Compare_int (x.1.1:Int) (y.1.1:Int) C;generalize Lib.compareInt (x.1.1:Int) (y.1.1:Int)=r at j⊢;have j:∀W,Calls prog 349 #[.int .i64 (x.1.1:Int),.int .i64 (y.1.1:Int)] W λe w'=>e=.returned (.int .i64 r)/\W=w':=λW=>(j W).mono λe w' h=>⟨h.1,h.2.symm⟩
 unfold rV slV;go_enter func348,ntmps348
 go_wp2_with (go_at_call 349;refine(j _).mono ?_;rintro e w' ⟨rfl,rfl⟩)
 go_ret
 exact⟨rfl,0,_,by rw[Go.Sort.alloc_eq_grow,Go.Sort.alloc_eq_grow,Go.Sort.grow_grow];rfl⟩
def cfR(x y:Rw×Sl):Int:=Lib.compareInt (x.1.1:Int) (y.1.1:Int)
def Zhv(x y:Rw×Sl):ltOf cfR x y=decide (x.1.1<y.1.1):=by
 unfold ltOf cfR Lib.compareInt;by_cases j:x.1.1<y.1.1
 ·simp[j]
 ·by_cases q:y.1.1<x.1.1<;>simp[j,q]
def ZwS:Go.Sort.SWO (ltOf cfR):=
 ⟨λx=>by rw[Zhv];simp,λx y z q j=>by rw[Zhv] at*;simp at*;omega,λx y z q j=>by rw[Zhv] at*;simp at*;omega⟩
def Zs6(q j size:Nat)(w:World):CmpLays prog 348 #[] rV 4 cfR q j size w:=
 λ_ _ _ _ x y=>Zs7 x y _
def ZoF:∀x:Rw×Sl,∀v∈rV x,v.oneCell'=true:=λx v j=>by
 simp only[rV,slV,List.mem_cons,List.not_mem_nil,or_false] at j;rcases j with rfl|rfl|rfl|rfl<;>rfl
def Zhj{α:Type}(f:α->List Value)(j:∀x,(f x).length=4):∀(l:List α) (k i:Nat) (x:α),l[k]?=some x->i<4->(l.flatMap f)[k*4+i]?=(f x)[i]?
 |[],k,i,x,h,_=>by simp at h
 |a::l,0,i,x,h,q=>by
  simp at h;subst h;rw[List.flatMap_cons,Nat.zero_mul,Nat.zero_add,List.getElem?_append_left (by rw[j];exact q)]
 |a::l,k+1,i,x,h,q=>by
  rw[List.flatMap_cons,List.getElem?_append_right (by rw[j];omega),j,show(k+1)*4+i - 4=k*4+i by omega];exact Zhj f j l k i x (by simpa using h) q
def Zf2{α:Type}(f:α->List Value)(j:∀x,(f x).length=4):∀l:List α,(l.flatMap f).length=l.length*4
 |[]=>rfl
 |a::l=>by rw[List.flatMap_cons,List.length_append,j,Zf2 f j l,List.length_cons];omega
def flat_get(ts:List (Rw×Sl))(j:Nat)(y:j<ts.length*4):some (Go.Sort.flatK rV 4 ts.toArray)[j]! =(ts.flatMap rV)[j]?:=by
 have u:j / 4<ts.length:=by omega
 have he:j=j / 4*4+j % 4:=by omega
 rw[Go.Sort.get_flatK _ _ _ _ (by simpa using y)]
 conv=>rhs;rw[he]
 rw[Zhj rV ZeC ts (j / 4) (j % 4) ts[j / 4] (List.getElem?_eq_getElem u) (Nat.mod_lt _ (by omega))];have C:ts.toArray[j / 4]! =ts[j / 4]:=by simp[u]
 have q:j % 4<(rV ts[j / 4]).length:=by rw[ZeC];exact Nat.mod_lt _ (by omega)
 rw[C,List.getElem?_eq_getElem q,getElem!_pos (rV ts[j / 4]) (j % 4) q]
def Zuu{w:World}{base g cap:Nat}{e:TypeId}{ts:List (Rw×Sl)}(h:w.ownsRow base e 4 (.slice (some ⟨g,0,none⟩) ts.length cap) ts.length (ts.flatMap rV)):Go.Sort.HoldsK rV 4 w g 0 ts.toArray:=by
 intro j u;have q:j<ts.length*4:=by simpa using u
 have y:(ts.flatMap rV).length=ts.length*4:=h.1;refine⟨?_,?_⟩
 ·rw[Nat.zero_add,h.cellAt j q,<-flat_get ts j q];rfl
 ·rw[Nat.zero_add];exact h.frozenAt j
def Zi5{w:World}{g n:Nat}{os:Array Obj}(d:Array (Rw×Sl)):w.grownBy (sortWorldK rV 4 w g 0 n d os) (some g):=by
 unfold sortWorldK Go.Sort.putRowK;refine⟨rfl,rfl,rfl,by simp,λk q j=>?_⟩;rw[Go.Sort.heap_grow_old _ _ (by simpa using q)];have:g≠k:=λe=>j (by rw[e]);simp[Go.Sort.putRow,Go.Sort.mapBlock,Go.Sort.ahead,Array.getElem?_modify,this]
def Zc1(w:World)(B:Nat)(A:Option Addr)(rs:List (Rw×Sl)):Prop:=Reads w B 4 A rs.length (rs.flatMap rV)/\∀j,A=some j->j.spot=none
def SfPost(base g:Nat)(rs:List (Rw×Sl))(w0:World)(e:Ending)(w':World):Prop:=
 e=.returned (.tuple #[])/\∃rs':List (Rw×Sl),rs'.Perm rs/\rs'.Pairwise (λa b=>a.1.1<=b.1.1)/\(∀j u,(rs'.flatMap rV)[j]?=some u->w'.cell? ⟨g,j,none⟩=some u)/\w0.heap.size<=w'.heap.size/\Below base w0 w'/\w0.grownBy w' (some g)
def Zr0(base g cap:Nat)(rs:List (Rw×Sl))(w:World)(h:w.ownsRow base 316 4 (.slice (some ⟨g,0,none⟩) rs.length cap) rs.length (rs.flatMap rV))(D:base<=w.heap.size)(hn:rs.length<4611686018427387904):
 Calls prog 347 #[.slice (some ⟨g,0,none⟩) rs.length cap,.func (.func 348) #[] #[]] w (SfPost base g rs w):=by
 have J:=(h.lt g rfl)
 have eg:∀args w,(callFunc 348 args).run prog w=.ok (.enter 348 args) w:=enters_of func348 (by kernel_rfl) rfl;have hH:=Zuu h;have y:=AnyQ.slices_SortFunc laysSort 4 isAgg316 sizeOf316 rV ZeC ZoF cfR ZwS 348 #[] g 0 cap rs.toArray w eg (Zs6 g 0 rs.toArray.size w) hH J.2 (by simpa using hn);change Calls prog 347 _ _ _ at y
 have C:rs.toArray.size=rs.length:=by simp
 rw[C] at y;refine y.mono ?_;rintro e w' ⟨rfl,q,n,os,hp,hs,rfl⟩;obtain⟨W,_,I⟩:=hp;have hd:q.size=rs.length:=by rw[W,C]
 have U:q.extract 0 rs.length=q:=by rw[<-hd];simp
 have O:rs.toArray.extract 0 rs.length=rs.toArray:=by simp
 rw[U,O] at I;have hK:=holdsK_sortWorldK rV 4 w g 0 n rs.toArray q os J.2 hH (by rw[hd,C]);refine⟨rfl,q.toList,by simpa using I,?_,λj u V=>?_,?_,?_,Zi5 q⟩
 ·rw[List.pairwise_iff_getElem];intro i j Z L X;simp only[Array.length_toList] at Z L;have:=hs i j (Nat.zero_le _) X (by omega);rw[Zhv,decide_eq_false_iff_not,getElem!_pos q j L,getElem!_pos q i Z] at this;simp only[Array.getElem_toList];omega
 ·have hl:(q.toList.flatMap rV).length=q.size*4:=by rw[Zf2 rV ZeC];simp
  have L:j<q.size*4:=by
   rcases Nat.lt_or_ge j (q.size*4) with N|N
   ·exact N
   ·rw[List.getElem?_eq_none (by omega)] at V;cases V
  have N:=(hK j (by rw[Go.Sort.size_flatK];exact L)).1;have h2:=flat_get q.toList j (by simpa using L);rw[V] at h2;rw[Nat.zero_add] at N;rw[N,<-h2];rfl
 ·exact(Zi5 (os:=os) (n:=n) q).size
 ·exact(Below.refl base w).grown (Zi5 q) D λk Y=>by injection Y with Y;omega
open Go Go.RowKit Go.Lib
def ZkB(j:Value)(m:Nat):Builtin.zeroCells #[j] m=(List.replicate m j).toArray:=by
 unfold Builtin.zeroCells;apply Array.ext
 ·simp
 ·intro i u q;simp[Nat.mod_one]
section
variable {P:Program}
theorem Zv6(w:World)(base:Nat)(t tn ty e:TypeId)(i:TypeInfo)(z D:Value)(ht:P.underlying t=some (.slice e))(V:P.underlying tn=some (.int .i64))(hi:P.info? e=some i)(hz:i.zero=some z)
 (L:i.size=1) (aa:i.bytes=1) (J:z.cells=#[D]) (h1:D.oneCell'=true) (v:Value) (n:Nat) (xs:List Value) (q:w.ownsRow base e 1 v n xs) (m:Nat) (hm:0<m) (hN:n+m<=2000000) (ab:base<=w.heap.size):
 ∃v' w',(Builtin.append_ #[t,tn] ty #[v,.int .i64 m]).run P w=.ok v' w'/\w'.ownsRow base e 1 v' (n+m) (xs++List.replicate m D)/\w.grownBy w' v.ownBlock:=by
 have C:(xs++List.replicate m D).length=(n+m)*1:=by rw[List.length_append,q.1];simp
 have hw:IntKind.i64.wrap (m:Int)=m:=by rw[IntKind.wrap_i64];omega
 have O:¬((m:Int)<0):=by omega
 have U:¬(281474976710656<(m:Int)):=by omega
 have ae:¬m=0:=by omega
 have aw:∀u∈List.replicate m D,u.oneCell'=true:=λu hu=>by rw[List.eq_of_mem_replicate hu];exact h1
 have grown:∀(y:Nat),y<n+m->∀(row:Option Nat),
  (w.drew.alloc (.cells (xs.toArray++(List.replicate m D).toArray++Builtin.zeroCells z.cells (grownCap w (n+m) y e - (n+m))) e)).ownsRow base e 1
   (.slice (some ⟨w.heap.size,0,none⟩) (n+m) (grownCap w (n+m) y e)) (n+m) (xs++List.replicate m D)/\
  w.grownBy (w.drew.alloc (.cells (xs.toArray++(List.replicate m D).toArray++Builtin.zeroCells z.cells (grownCap w (n+m) y e - (n+m))) e)) row:=by
  intro y ho row;have ao:=grownCap_ge w (n+m) y e;have Z:grownCap w (n+m) y e<=maxLen:=grownCap_le_maxLen w (n+m) y e (by unfold maxLen;omega);refine⟨⟨C,.inr ⟨w.heap.size,_,_,rfl,ab,heap_alloc_new w.drew _,ao,Z,?_,?_⟩⟩,⟨rfl,rfl,rfl,by simp,λk hk _=>by apply heap_alloc_old;exact hk⟩⟩
  ·rw[J];simp only[Array.size_append,List.size_toArray,size_zeroCells,q.1,List.length_replicate];simp;omega
  ·simp only[Array.toList_append,List.append_assoc];rw[<-List.append_assoc,<-C];exact List.take_left
 rcases q.2 with⟨rfl,rfl⟩|⟨g,cap,cur,rfl,au,hg,aC,Z,aq,W⟩
 ·have hx:xs=[]:=List.eq_nil_of_length_eq_zero (by simpa using q.1);subst hx;have hr:=run_append_nil_zeros (P:=P) w t tn ty e i z .i64 .i64 ht V hi hz m hm (by omega) (by omega) (by rw[aa];omega);have I:=grown 0 (by omega) (Value.ownBlock (.slice none 0 0));rw[J,ZkB] at hr;simp only[Nat.zero_add,List.nil_append,Array.empty_append,J] at I⊢;exact⟨_,_,hr,I.1,I.2⟩
 ·by_cases N:n+m<=cap
  ·have af:n*1+(List.replicate m D).length<=cur.size:=by rw[aq];simp;omega
   have X:=run_storeCells_at P g (n*1) e (List.replicate m D) 0 cur w hg (by simpa using af) aw;simp only[Nat.add_zero] at X;have hr:(Builtin.append_ #[t,tn] ty #[.slice (some ⟨g,0,none⟩) n cap,.int .i64 m]).run P w=.ok (.slice (some ⟨g,0,none⟩) (n+m) cap) (w.setRow g (cur.toList.take (n*1)++List.replicate m D++cur.toList.drop (n*1+(List.replicate m D).length)).toArray):=by
    simp[Builtin.append_,run_underlying ht,run_underlying V,sizeOf,typeInfo,zeroValue,hi,hz,L,aa,J,ZkB,asInt,asIntOf,hw,O,U,N,ae,Addr.add_lit,Nat.mul_one] at X⊢;rw[X];rfl
   refine⟨_,_,hr,⟨C,.inr ⟨g,cap,_,rfl,au,setRow_heap w g cur _ e _ hg,N,Z,?_,?_⟩⟩,⟨rfl,rfl,rfl,by simp,λk _ hk=>setRow_other w g k _ (λe=>hk (by simp[Value.ownBlock,e]))⟩⟩
   ·simp only[List.size_toArray,List.length_append,List.length_take,List.length_drop,Array.length_toList];omega
   ·rw[W,<-C];exact List.take_left
  ·have Y:∀j u,xs[j]?=some u->w.cell? ((⟨g,0,none⟩:Addr).add j)=some u:=q.cells (g:=g) rfl;have hn:¬(n+m<=cap):=by omega
   have ah:¬(9223372036854775807<((n:Int)+(m:Int))):=by omega
   have ai:¬(281474976710656<Builtin.nextslicecap (n+m) cap):=by
    have:=growslice_fits (need:=n+m) (bytes:=1) (by omega:cap<n+m) (by omega);omega
   have ap:=run_firstCells_some (P:=P) w.drew 1 n ⟨g,0,none⟩ n cap xs q.1 (by simpa using Y);have hr:(Builtin.append_ #[t,tn] ty #[.slice (some ⟨g,0,none⟩) n cap,.int .i64 m]).run P w=.ok (.slice (some ⟨w.heap.size,0,none⟩) (n+m) (grownCap w (n+m) cap e)) (w.drew.alloc (.cells (xs.toArray++(List.replicate m D).toArray++Builtin.zeroCells z.cells (grownCap w (n+m) cap e - (n+m))) e)):=by
    simp[Builtin.append_,run_underlying ht,run_underlying V,sizeOf,typeInfo,zeroValue,hi,hz,L,aa,J,ZkB,asInt,asIntOf,hw,O,U,hn,ah,ai,ae,Question.forced,ap,newRow,grownCap]
   have I:=grown cap (by omega) (Value.ownBlock (.slice (some ⟨g,0,none⟩) n cap));exact⟨_,_,hr,I.1,I.2⟩
end
open Go Go.RowKit
def Zh5(base:Nat)(v:Value)(rs:List (Rw×Sl))(w0:World)(e:Ending)(w':World):Prop:=
 e=.returned (.tuple #[])/\∃A c,∃rs':List (Rw×Sl),v=.slice A rs.length c/\rs.length<=c/\rs'.Perm rs/\rs'.Pairwise (λa b=>a.1.1<=b.1.1)/\Zc1 w' w'.heap.size A rs'/\Below base w0 w'/\w0.grownBy w' v.ownBlock
def ZkE(base:Nat)(v:Value)(rs:List (Rw×Sl))(w:World)(h:w.ownsRow base 316 4 v rs.length (rs.flatMap rV))(y:base<=w.heap.size)(hn:rs.length<4611686018427387904):
 Calls prog 313 #[v] w (Zh5 base v rs w):=by
 have hfin:∃A c,v=.slice A rs.length c/\rs.length<=c/\Calls prog 347 #[.slice A rs.length c,.func (.func 348) #[] #[]] w (Zh5 base v rs w):=by
  by_cases h0:rs=[]
  ·subst h0;obtain⟨A,c,D,L,_⟩:=Reads.of_own h;refine⟨A,c,D,L,?_⟩;have:=AnyF.slices_SortFunc_none laysSort A c (.func (.func 348) #[] #[]) w;change Calls prog 347 _ _ _ at this
   refine this.mono ?_;rintro e w' ⟨rfl,rfl⟩;refine⟨rfl,A,c,[],D,L,List.Perm.refl _,by simp,⟨Reads.none_,?_⟩,Below.refl _ _,⟨rfl,rfl,rfl,Nat.le_refl _,λ_ _ _=>rfl⟩⟩;intro ad hA;subst hA;rw[D] at h;exact ZnY h
  ·have N:0<rs.length:=List.length_pos_iff.2 h0;rcases h.2 with⟨_,O⟩|⟨g,cap,cur,rfl,Y,hg,I,X,W,J⟩
   ·omega
   ·refine⟨_,cap,rfl,I,?_⟩;refine(Zr0 base g cap rs w h y hn).mono ?_;rintro e w' ⟨rfl,rs',h1,O,h3,h4,h5,h6⟩;have V:=(h.lt g rfl).2;refine⟨rfl,_,cap,rs',rfl,I,h1,O,⟨⟨Zf2 rV ZeC rs',λ_=>⟨_,rfl,by show g<_;omega,λj u U=>?_⟩⟩,λad C=>by injection C with C;subst C;rfl⟩,h5,h6⟩;rw[addr_eq rfl];simpa using h3 j u U
 obtain⟨A,c,D,L,hs⟩:=hfin;generalize Z:Zh5 base v rs w=P at*;subst D;go_enter func313,ntmps313
 go_wp2_with (go_at_call 347;refine hs.mono ?_;intro e w1 q;have he:e=.returned (.tuple #[]):=(by rw[<-Z] at q;exact q.1);subst he)
 go_end0
 exact q
def Zcp(l:List Bool)(a b:Nat):List Bool:=l.mapIdx λj x=>x||(decide (a<=j)&&decide (j<b))
def Zfu(l:List Bool)(a b:Nat):(Zcp l a b).length=l.length:=by simp[Zcp]
def Zj4(l:List Bool)(a b c:Nat)(j:c<l.length):(Zcp l a b)[c]?=some (l[c]||(decide (a<=c)&&decide (c<b))):=by
 unfold Zcp;rw[List.getElem?_mapIdx,List.getElem?_eq_getElem j];rfl
def ZoY(l:List Bool)(a:Nat):Zcp l a a=l:=by
 apply List.ext_getElem?
 intro j;unfold Zcp;rw[List.getElem?_mapIdx];cases l[j]? with
 |none=>rfl
 |some x=>
  simp only[Option.map_some];congr 1
  by_cases h:a<=j
  ·rw[decide_eq_false (by omega:¬j<a)];simp
  ·rw[decide_eq_false h];simp
def ZoX(l:List Bool)(a c:Nat)(h:a<=c):Zcp l a (c+1)=(Zcp l a c).set c true:=by
 apply List.ext_getElem?
 intro j;rw[List.getElem?_set];unfold Zcp;rw[List.getElem?_mapIdx,List.getElem?_mapIdx,List.length_mapIdx];by_cases u:c=j
 ·subst u;rw[if_pos rfl];by_cases q:c<l.length
  ·rw[if_pos q,List.getElem?_eq_getElem q];simp only[Option.map_some];rw[decide_eq_true h,decide_eq_true (by omega:c<c+1)];simp
  ·rw[if_neg q,List.getElem?_eq_none (by omega)];rfl
 ·rw[if_neg u];cases l[j]? with
  |none=>rfl
  |some x=>
   simp only[Option.map_some];have:decide (j<c+1)=decide (j<c):=decide_eq_decide.2 (by omega);rw[this]
def ZdN(bits:List Bool)(acc:List Rw):Prop:=(∀r∈acc,r.1+r.2.1<=bits.length)/\∀c,c<bits.length->bits[c]?=some (acc.any λq=>decide (q.1<=c)&&decide (c<q.1+q.2.1))
def Zws:ZdN [] []:=⟨by simp,by simp⟩
def Zwr{bits:List Bool}{acc:List Rw}(h:ZdN bits acc)(m:Nat):ZdN (bits++List.replicate m false) acc:=by
 obtain⟨u,I⟩:=h;refine⟨λr y=>by have:=u r y;simp;omega,λc D=>?_⟩;by_cases j:c<bits.length
 ·rw[List.getElem?_append_left j];exact I c j
 ·simp only[List.length_append,List.length_replicate] at D;rw[List.getElem?_append_right (by omega),List.getElem?_replicate,if_pos (by omega)];congr 1
  symm
  rw[List.any_eq_false];intro q C;have:=u q C;simp;omega
def ZoV{bits:List Bool}{acc:List Rw}{r:Rw}{c:Nat}(h:ZdN bits acc)(D:r.1<=c/\c<r.1+r.2.1)(hb:bits[c]?=some true):ovl acc r=true:=by
 have C:c<bits.length:=by
  rcases Nat.lt_or_ge c bits.length with u|u
  ·exact u
  ·rw[List.getElem?_eq_none u] at hb;cases hb
 rw[h.2 c C] at hb;injection hb with hb
 obtain⟨q,y,j⟩:=List.any_eq_true.1 hb;refine List.any_eq_true.2 ⟨q,y,?_⟩;simp only[Bool.and_eq_true,decide_eq_true_eq] at j⊢;omega
def ZoW{bits:List Bool}{acc:List Rw}{r:Rw}(h:ZdN bits acc)(D:∀q∈acc,1<=q.2.1)(J:1<=r.2.1)(he:r.1+r.2.1<=bits.length)(hb:∀c,r.1<=c->c<r.1+r.2.1->bits[c]?=some false):
 ovl acc r=false/\ZdN (Zcp bits r.1 (r.1+r.2.1)) (acc++[r]):=by
 constructor
 ·rw[ovl,List.any_eq_false];intro q C u;simp only[Bool.and_eq_true,decide_eq_true_eq] at u;have y:=D q C;have j:=hb (max q.1 r.1) (by omega) (by omega);rw[h.2 _ (by omega)] at j;injection j with j
  have I:=List.any_eq_false.1 j q C;simp only[Bool.and_eq_true,decide_eq_true_eq,not_and] at I;omega
 ·refine⟨λq C=>?_,λc u=>?_⟩
  ·rw[Zfu];rcases List.mem_append.1 C with y|y
   ·exact h.1 q y
   ·simp only[List.mem_singleton] at y;subst y;exact he
  ·rw[Zfu] at u;rw[Zj4 _ _ _ _ u];have j:=h.2 c u;rw[List.getElem?_eq_getElem u] at j;injection j with j
   rw[j,List.any_append];simp
def ZjZ:(prog.info? 316).map (λi=>(i.zero,i.size,i.bytes))=some (some (.agg #[.int .i64 0,.int .i64 0,.int .i32 0,.slice none 0 0]),4,48):=by kernel_rfl
def ZsP:(prog.info? 4).map (λi=>(i.zero,i.size,i.bytes))=some (some (.bool false),1,1):=by kernel_rfl
def ZjB{w:World}{b1 b2 W V X D:Nat}{J I:TypeId}{C:Value}{g c:Nat}{U O:List Value}(h1:w.ownsRow b1 J W C X U)(y:w.ownsRow b2 I V (.slice (some ⟨g,0,none⟩) D c) D O)(u:J≠I):C.ownBlock≠some g:=by
 rcases h1.2 with⟨rfl,_⟩|⟨g1,cap,cur,rfl,hb,Y,rest⟩
 ·simp[Value.ownBlock]
 ·rcases y.2 with⟨h,_⟩|⟨g2,N,L,he,Z,j,q⟩
  ·cases h
  ·injection he with he
   injection he with he
   injection he with he
   subst he;simp only[Value.ownBlock,ne_eq,Option.some.injEq];rintro rfl;rw[Y] at j;injection j with j
   injection j with _ y _
   exact u y
def ZjC{w:World}{b1 b2 V U X W:Nat}{I D:TypeId}{j y:Value}{O N:List Value}(h1:w.ownsRow b1 I V j X O)(C:w.ownsRow b2 D U y W N)(u:I≠D):j.ownBlock=none\/j.ownBlock≠y.ownBlock:=by
 rcases C.2 with⟨rfl,_⟩|⟨g2,L,J,rfl,Z,Y,q⟩
 ·cases h:j.ownBlock with
  |none=>exact .inl rfl
  |some k=>exact .inr (by simp[Value.ownBlock])
 ·exact .inr (ZjB h1 C u)
def ZcS{w w':World}{B b s n:Nat}{e:TypeId}{v:Value}{xs:List Value}{x:Rw×Sl}(h:ZI w B x)(q:w.ownsRow b e s v n xs)(u:e≠21)(y:w.grownBy w' v.ownBlock)(hB:B<=w.heap.size):ZI w' B x:=
 h.keep λk C ⟨cs,fr,hh⟩=>by
  refine y.block k (by omega) ?_;rcases q.2 with⟨rfl,_⟩|⟨g,cap,cur,rfl,hb,j,rest⟩
  ·simp[Value.ownBlock]
  ·simp only[Value.ownBlock,ne_eq,Option.some.injEq];rintro rfl;rw[hh] at j;injection j with j
   injection j with _ h2 _
   exact u h2.symm
def Zy{w j:World}{K:Nat}{o:Obj}(h:w.heap[K]?=some o)(hb:Below w.heap.size w j):j.heap[K]?=some o:=
 (hb.block K (Array.getElem?_eq_some_iff.1 h).1).trans h
def ZbQ(w:World)(rs:List (Rw×Sl)):Prop:=∀x∈rs,Za3 x.1/\ZI w w.heap.size x
def ZbQ.below{w w':World}{rs:List (Rw×Sl)}(h:ZbQ w rs)(hb:Below w.heap.size w w'):ZbQ w' rs:=λx j=>⟨(h x j).1,((h x j).2.below hb).more hb.size⟩
def ZbQ.grown{w w':World}{b s n:Nat}{e:TypeId}{v:Value}{xs:List Value}{rs:List (Rw×Sl)}(h:ZbQ w rs)(j:w.ownsRow b e s v n xs)(q:e≠21)(y:w.grownBy w' v.ownBlock):ZbQ w' rs:=
 λx u=>⟨(h x u).1,(ZcS (h x u).2 j q y NL).more y.size⟩
def NwOk(l:List Pce)(rs:List (Rw×Sl)):Prop:=∃j:List (Rw×Sl),Zau [] l 0=.inl (j.map (·.1))/\rs.Perm j/\rs.Pairwise λa b=>a.1.1<=b.1.1
def ZgS(l:List Pce)(w0:World)(e:Ending)(w':World):Prop:=
 ((∃A c rs,NwOk l rs/\rs.length<=c/\Zc1 w' w'.heap.size A rs/\ZbQ w' rs/\e=.returned (.tuple #[.agg #[.slice A rs.length c],.agg #[.int .i64 0,.int .i64 0]]))\/
   ∃k:Nat,Zau [] l 0=.inr k/\e=.returned (.tuple #[.agg #[.slice none 0 0],.agg #[.int .i64 5,.int .i64 k]]))/\Below w0.heap.size w0 w'
def NwRel(l:List Pce)(base:Nat)(u:World)(q j i:Value)(wr:World):Prop:=∃(k:Nat) (rs:List (Rw×Sl)) (bits:List Bool),k<=l.length/\i=.int .i64 k/\Zau [] l 0=Zau (rs.map (·.1)) (l.drop k) k/\rs.length<=k/\
 wr.ownsRow base 316 4 q rs.length (rs.flatMap rV)/\wr.ownsRow base 4 1 j bits.length (bits.map Value.bool)/\ZdN bits (rs.map (·.1))/\bits.length<=1048576/\ZbQ wr rs/\Below base u wr
def IwRel(base:Nat)(D:World)(r:Rw)(q:Sl)(rs:List (Rw×Sl))(u:Value)(y C:Nat)(bits:List Bool)(B8:Nat)(i:Value)(wr:World):Prop:=∃c:Nat,r.1<=c/\c<=r.1+r.2.1/\i=.int .i64 c/\(∀j,r.1<=j->j<c->bits[j]?=some false)/\
 wr.ownsRow base 4 1 (.slice (some ⟨y,0,none⟩) bits.length C) bits.length ((Zcp bits r.1 c).map Value.bool)/\wr.ownsRow base 316 4 u rs.length (rs.flatMap rV)/\ZbQ wr rs/\ZI wr wr.heap.size (r,q)/\
 wr.heap[B8]?=some (.cells #[.int .i64 (r.1:Int),.int .i64 (r.2.1:Int),.int .i32 r.2.2.1,.slice q.1 q.2.1 q.2.2] 316 (0,0))/\Below base D wr
def ZnX{w:World}{base:Nat}{e:TypeId}{s n:Nat}{v:Value}{xs:List Value}(h:w.ownsRow base e s v n xs)(hn:0<n):∃g c,v=.slice (some ⟨g,0,none⟩) n c:=by
 rcases h.2 with⟨_,h⟩|⟨g,cap,cur,h,_⟩
 ·omega
 ·exact⟨g,cap,h⟩
def Zhp{w:World}{base:Nat}{e u:TypeId}{s n:Nat}{v:Value}{xs:List Value}(h:w.ownsRow base e s v n xs){K:Nat}{cs:Array Value}{fr:Nat×Nat}(j:w.heap[K]?=some (.cells cs u fr))(q:e≠u):some K≠v.ownBlock:=by
 rcases h.2 with⟨rfl,_⟩|⟨g,cap,cur,rfl,hb,y,rest⟩
 ·simp[Value.ownBlock]
 ·simp only[Value.ownBlock,ne_eq,Option.some.injEq];rintro rfl;rw[y] at j;injection j with j
  injection j with _ h2 _
  exact q h2
def Zo0{w:World}{g j:Nat}(u:Value):w.grownBy (w.setCell ⟨g,j,none⟩ u) (some g):=
 ⟨rfl,rfl,rfl,by simp,λk _ q=>Go.Deep.blk_setCell_other w _ u k (λe=>q (by rw[e]))⟩
def W2(w:World):World:=(w.alloc (.cells #[.slice none 0 0] 214)).alloc (.cells #[.int .i64 0,.int .i64 0] 34)
def Zez{w W:World}(h:Below (w.heap.size+2) (W2 w) W):
 (W.cell? ⟨w.heap.size,0,none⟩=some (.slice none 0 0)/\W.cell? ⟨w.heap.size+1,0,none⟩=some (.int .i64 0)/\W.cell? ⟨w.heap.size+1,1,none⟩=some (.int .i64 0))/\(W.frozen? ⟨w.heap.size,0,none⟩=false/\W.frozen? ⟨w.heap.size+1,0,none⟩=false/\W.frozen? ⟨w.heap.size+1,1,none⟩=false)/\w.heap.size+1<W.heap.size:=by
 have hs:=h.size;unfold W2 at h hs;simp only[World.size_alloc] at hs;have u:Below ((w.alloc (.cells #[.slice none 0 0] 214)).alloc (.cells #[.int .i64 0,.int .i64 0] 34)).heap.size ((w.alloc (.cells #[.slice none 0 0] 214)).alloc (.cells #[.int .i64 0,.int .i64 0] 34)) W:=by simpa using h
 obtain⟨q,j,_⟩:=bx u;obtain⟨b1,y,_⟩:=bx (Ze u);simp only[World.size_alloc] at q j;exact⟨⟨b1 0,q 0,q 1⟩,⟨y 0,j 0,j 1⟩,by omega⟩
def Zvb{w W:World}(h:Below (w.heap.size+2) (W2 w) W):W.heap[w.heap.size]?=some (.cells #[.slice none 0 0] 214 (0,0))/\W.heap[w.heap.size+1]?=some (.cells #[.int .i64 0,.int .i64 0] 34 (0,0)):=by
 rw[h.block _ (by omega),h.block _ (by omega)];unfold W2;constructor
 ·rw[Below.heap_alloc _ _ _ (by simp)];exact heap_alloc_new w _
 ·have:=heap_alloc_new (w.alloc (.cells #[.slice none 0 0] 214)) (.cells #[.int .i64 0,.int .i64 0] 34);simp only[World.size_alloc] at this;exact this
def Zwt{w:World}{u j k:Nat}(a b c:Value)(y:k≠u)(q:k≠j):(((w.setCell ⟨u,0,none⟩ a).setCell ⟨j,0,none⟩ b).setCell ⟨j,1,none⟩ c).heap[k]?=w.heap[k]?:=by
 rw[heap_set q,heap_set q,heap_set y]
def ZbQ.set3{w:World}{rs:List (Rw×Sl)}{y u:Nat}(h:ZbQ w rs)(a b c:Value){I D:TypeId}{N c2:Array Value}(q:w.heap[y]?=some (.cells N I (0,0)))(j:w.heap[u]?=some (.cells c2 D (0,0)))(L:I≠21)(J:D≠21):
 ZbQ (((w.setCell ⟨y,0,none⟩ a).setCell ⟨u,0,none⟩ b).setCell ⟨u,1,none⟩ c) rs:=λx C=>by
 have e:(((w.setCell ⟨y,0,none⟩ a).setCell ⟨u,0,none⟩ b).setCell ⟨u,1,none⟩ c).heap.size=w.heap.size:=by simp
 refine⟨(h x C).1,?_⟩;rw[e];refine(h x C).2.keep λk O ⟨cs,fr,hh⟩=>Zwt a b c ?_ ?_
 ·rintro rfl;rw[hh] at q;injection q with q;injection q with _ q _;exact L q.symm
 ·rintro rfl;rw[hh] at j;injection j with j;injection j with _ j _;exact J j.symm
def Zc1.set3{w:World}{A:Option Addr}{rs:List (Rw×Sl)}{D q base:Nat}(h:Zc1 w w.heap.size A rs)(O:∀y,A=some y->base<=y.block)(V:D<base)(U:q<base)(a b c:Value):
 Zc1 (((w.setCell ⟨D,0,none⟩ a).setCell ⟨q,0,none⟩ b).setCell ⟨q,1,none⟩ c) (((w.setCell ⟨D,0,none⟩ a).setCell ⟨q,0,none⟩ b).setCell ⟨q,1,none⟩ c).heap.size A rs:=by
 have e:(((w.setCell ⟨D,0,none⟩ a).setCell ⟨q,0,none⟩ b).setCell ⟨q,1,none⟩ c).heap.size=w.heap.size:=by simp
 rw[e];refine⟨⟨h.1.1,λh0=>?_⟩,h.2⟩;obtain⟨y,C,hb,J⟩:=h.1.2 h0;have N:=O y C;refine⟨y,C,hb,λj u I=>?_⟩;have L:(y.add j).block=y.block:=by unfold Addr.add;split<;>rfl
 rw[Zcv (by omega),Zcv (by omega),Zcv (by omega)];exact J j u I
def Zhl(w:World)(a b c d:Value)(T:TypeId):∀j u,[a,b,c,d][j]?=some u->(w.alloc (.cells #[a,b,c,d] T)).cell? ((⟨w.heap.size,0,none⟩:Addr).add j)=some u:=by
 intro j u q;rw[addr_eq rfl];show(w.alloc _).cell? ⟨w.heap.size,0+j,none⟩=_
 rw[Nat.zero_add,cell_of_row _ w.heap.size j _ T (0,0) (heap_alloc_new w _)];simpa using q
def ZfU{w W:World}(h:Below (w.heap.size+2) (W2 w) W):Below w.heap.size w W:=ZiD (by unfold W2 at h;simpa using h)
def Zq4(l:List Pce)(A:Option Addr)(c:Nat)(hl:l.length<=4096)(a1:∀p∈l,Zb8 p/\p.2.2.2.1.size<=1000000)(w:World)(hT:Zo w)(hA:Reads w w.heap.size 4 A l.length (l.flatMap pV)):
 Calls prog 273 #[.slice A l.length c] w (ZgS l w):=by
 have HE:Hid (∀k w',Zau [] l 0=.inr k->Below w.heap.size w w'->ZgS l w (.returned (.tuple #[.agg #[.slice none 0 0],.agg #[.int .i64 5,.int .i64 (k:Nat)]])) w'):=QQ λk w' h hb=>⟨.inr ⟨k,h,rfl⟩,hb⟩
 have HO:Hid (∀A c rs w',NwOk l rs->rs.length<=c->Zc1 w' w'.heap.size A rs->ZbQ w' rs->Below w.heap.size w w'->ZgS l w (.returned (.tuple #[.agg #[.slice A rs.length c],.agg #[.int .i64 0,.int .i64 0]])) w'):=QQ λA c rs w' h1 h2 h3 h4 hb=>⟨.inl ⟨A,c,rs,h1,h2,h3,h4,rfl⟩,hb⟩
 generalize ZgS l w=P at*;obtain⟨i0,hi,b0,bZ,bY⟩:=info_parts ZjZ;obtain⟨j0,hj,cI,cH,cG⟩:=info_parts ZsP;have c9:=QQ a1;clear a1;go_enter func273,ntmps273
 go_wp2_with fail
 go_loopw [4,5,14] (λv4 v5 i wr=>NwRel l (w.heap.size+2) (W2 w) v4 v5 i wr) (λ_ _ i _=>l.length - (intOf i).toNat)
 case atStart=>exact⟨0,[],[],by omega,rfl,rfl,by simp,World.ownsRow_nil _ _ _ _,World.ownsRow_nil _ _ _ _,Zws,by simp,by intro x hx;simp at hx,Below.refl _ _⟩
 case round=>
  obtain⟨k,rs,bits,hk,rfl,bv,dx,X,aB,aF,cV,bc,hb⟩:=hrel;obtain⟨_,_,hz⟩:=Zez hb;by_cases cP:k<l.length
  ·obtain⟨p,hp⟩:∃p,l[k]?=some p:=⟨_,List.getElem?_eq_getElem cP⟩
   obtain⟨ad,rfl,cd,cb⟩:=hA.2 (by omega);obtain⟨b5,cM⟩:=c9.out p (List.mem_of_getElem? hp);have bh:∀i u,(pV p)[i]?=some u->i<4->wr.cell? (ad.add (k*4+i))=some u:=λi u hu cR=>by
    have h1:=cb (k*4+i) u ((Zhj pV Zn9 l k i p hp cR).trans hu);have bK:(ad.add (k*4+i)).block=ad.block:=by unfold Addr.add;split<;>rfl
    rw[hb.cell (by rw[bK];omega),W2,World.cell?_alloc_lt _ _ _ (by rw[bK];simp;omega),World.cell?_alloc_lt _ _ _ (by rw[bK];exact cd)];exact h1
   have bw:∀i,i≠0->ad.add (k*4+i)=⟨(ad.add (k*4)).block,(ad.add (k*4)).off+i,none⟩:=λi hi=>by
    rw[<-Ziz];show(if i=0 then _ else _)=_
    rw[if_neg hi]
   have q0:=bh 0 _ rfl (by omega);have q1:=bh 1 _ rfl (by omega);have q2:=bh 2 _ rfl (by omega);have q3:=bh 3 _ rfl (by omega);rw[Nat.add_zero] at q0;rw[bw 1 (by omega)] at q1;rw[bw 2 (by omega)] at q2;rw[bw 3 (by omega)] at q3;clear bh bw;have bR:=QQ bv;clear bv;have bd:=λw' hT=>Zre p b5 cM w' hT;unfold pV at bd;have cX:=ZfU hb;have bL:∀o,Zo (wr.alloc o):=λo=>ZK (ZaQ hT cX NL) o;have ca:l.drop k=p::l.drop (k+1):=by
    obtain⟨h1,h2⟩:=List.getElem?_eq_some_iff.1 hp;rw[List.drop_eq_getElem_cons h1,h2]
   have U:Zau [] l 0=Zau (rs.map (·.1)) (p::l.drop (k+1)) k:=by rw[<-ca];exact bR.out
   simp only[Zau] at U;clear ca;cases hr:rowOf p with
   |none=>
    rw[hr] at U;have aJ:=QQ U;have b4:∀w',Zo w'->Calls prog 312 #[.agg #[.int .i64 p.1,.int .i32 p.2.1,.int .i64 p.2.2.1,.string p.2.2.2.1]] w' λe aN=>e=.returned (.tuple #[.agg #[.int .i64 0,.int .i64 0,.int .i32 0,.slice none 0 0],.bool false])/\Below w'.heap.size w' aN:=λw' hT=>(bd w' hT).mono λe aN h=>by
     obtain⟨h1|⟨r,v,h1,_⟩,h2⟩:=h
     ·exact⟨h1.2,h2⟩
     ·rw[hr] at h1;cases h1
    clear bd U hr bR X aB aF bc;go_wp2_with (go_at_call 312;refine MR (b4 _ (bL _)) λw1 aj=>?_;have a2:=(hb.alloc (by omega) _).trans (aj.mono (by simp;omega));have b1:=aj.size;obtain⟨⟨c0,c1,c2⟩,⟨f0,f1,f2⟩,g0⟩:=Zez a2;have g1:w.heap.size<w1.heap.size:=(by omega))
    refine bodyPost_ret (v:=.tuple #[.agg #[.slice none 0 0],.agg #[.int .i64 5,.int .i64 (k:Nat)]]) (by simp[results,results273,go_sem,World.cell?_alloc_lt,g0,g1,c0,c1,c2]) rfl ?_;exact HE k _ aJ (((((ZfU a2).setCell NL _).setCell (by simp) _).setCell (by simp) _).alloc (by simp;omega) _)
   |some r=>
    rw[hr] at U;simp only at U;have a1:=ZoM b5 hr;have bC:∀w',Zo w'->Calls prog 312 #[.agg #[.int .i64 p.1,.int .i32 p.2.1,.int .i64 p.2.2.1,.string p.2.2.2.1]] w' λe aN=>∃q:Sl,e=.returned (.tuple #[.agg #[.int .i64 (r.1:Int),.int .i64 (r.2.1:Int),.int .i32 r.2.2.1,.slice q.1 q.2.1 q.2.2],.bool true])/\ZI aN aN.heap.size (r,q)/\Below w'.heap.size w' aN:=λw' hT=>(bd w' hT).mono λe aN h=>by
     obtain⟨h1|⟨r',v,h1,h3,h4⟩,h2⟩:=h
     ·rw[hr] at h1;cases h1.1
     ·rw[hr] at h1;injection h1 with h1;subst h1
      exact⟨v,h3,h4,h2⟩
    clear bd hr bR;obtain⟨bX,cF,ds⟩:=id a1;obtain⟨A5,c5,a8,cT,_⟩:=Reads.of_own aB;have ax:=λv W=>ZdF r.1 r.2.1 r.2.2.1 v cF W;have e1:IntKind.i64.wrap ((r.1:Int)+r.2.1 - bits.length)=(r.1:Int)+r.2.1 - bits.length:=IntWalk.i64_in _ (by omega);subst a8;have aI:=QQ U;have aL:=QQ X;have aU:=QQ aB;have bk:=QQ aF;have bz:=QQ bc;clear U X aB aF bc;by_cases cS:bits.length<r.1+r.2.1
    ·have bD:(0:Int)<(r.1:Int)+r.2.1 - bits.length:=by omega
     have cO:(r.1:Int)+r.2.1 - bits.length=((r.1+r.2.1 - bits.length:Nat):Int):=by omega
     rw[cO] at e1 bD;go_wp2_with (first|(go_at_call 312;refine(bC _ (bL _)).mono ?_;rintro e w1 ⟨q,rfl,bb,aj⟩;have a2:=(hb.alloc (by omega) _).trans (aj.mono (by simp;omega));have b1:=ZY aj;have bq:=QQ (bz.below (Ze aj));have bt:=QQ (ZB (aL.alloc _) aj);have bs:=QQ (ZB (aU.alloc _) aj);have bQ:=QQ bb;clear bb)|(go_at_call 279;refine MR (ax _ _) λw2 Y=>?_;have bW:=(a2.alloc (by omega) _).trans (Y.mono (by simp;omega));have bG:=ZY Y;have bp:=QQ (bq.below (Ze Y));have aY:=QQ (ZB (bt.alloc _) Y);have ay:=QQ (ZB (bs.alloc _) Y);have bn:=QQ ((bQ.below (Ze Y)).more (Nat.le_of_succ_le bG));have H8:=QQ (Zy (heap_alloc_new w1 (.cells #[.int .i64 (r.1:Int),.int .i64 (r.2.1:Int),.int .i32 r.2.2.1,.slice q.1 q.2.1 q.2.2] 316)) Y);obtain⟨⟨x0,x1,x2,x3⟩,_⟩:=bx4 Y)|(at_builtin;obtain⟨cC,w3,bA,aG,aw⟩:=Zv6 (P:=prog) w2 (w.heap.size+2) 334 3 334 4 j0 _ (.bool false) underlying334 underlying3 hj cI cH cG rfl rfl _ _ _ ay (r.1+r.2.1 - bits.length) (by omega) (by omega) (by omega);refine Lib.wpList_append_run _ rfl _ _ _ _ rfl _ _ rfl rfl _ _ bA ?_;clear bA;have ck:=QQ (aY.kept aw (ZjC aY ay (by decide)));have ci:=QQ (bp.grown ay (by decide) aw);have ch:=QQ ((ZcS bn ay (by decide) aw NL).more aw.size);have cm:=QQ ((aw.block _ (by omega) (Zhp ay H8 (by decide))).trans H8);have dc:=Zad bW ay aw (by omega) NL;have dw:=aw.size;obtain⟨N,az⟩:∃b:List Bool,b=bits++List.replicate (r.1+r.2.1 - bits.length) false:=⟨_,rfl⟩;have b7:N.length=r.1+r.2.1:=(by rw[az];simp;omega);have O:w3.ownsRow (w.heap.size+2) 4 1 cC N.length (N.map Value.bool):=(by rw[b7,az,List.map_append,List.map_replicate];rw[show bits.length+(r.1+r.2.1 - bits.length)=r.1+r.2.1 by omega] at aG;exact aG);obtain⟨g5,c5,rfl⟩:=ZnX O (by omega);have cj:=QQ O;have aE:=QQ (show ZdN N (rs.map (·.1)) by rw[az];exact Zwr bk _);have cA:=cell_of_row _ _ 0 _ _ _ cm.out;simp at cA;have bu:=QQ (show r.1+r.2.1<=N.length by omega);have bT:=QQ (show N.length<=1048576 by omega);clear aG O aw az b7))
     clear x0 x1 x2 x3;go_loopw [11] (λi bE=>IwRel (w.heap.size+2) (W2 w) r q rs u4 g5 c5 N w1.heap.size i bE) (λi _=>r.1+r.2.1 - (intOf i).toNat)
     case atStart=>exact⟨r.1,Nat.le_refl _,by omega,rfl,(λj h1 h2=>by omega),by rw[ZoY];exact cj,ck,ci,ch,cm,dc⟩
     case round=>
      obtain⟨cc,bi,cU,rfl,L,ac,aH,ah,ae,Z,aQ⟩:=hrel;have y0:=cell_of_row _ _ 0 _ _ _ Z;have y1:=cell_of_row _ _ 1 _ _ _ Z;have y2:=cell_of_row _ _ 2 _ _ _ Z;have y3:=cell_of_row _ _ 3 _ _ _ Z;simp at y0 y1 y2 y3;have am:=QQ L;have aV:=QQ ac;have aW:=QQ aH;have ak:=QQ ah;have aD:=QQ ae;have aX:=QQ Z;have Hb:=QQ aQ;have aO:=(ac.lt g5 rfl).2;obtain⟨_,_,cJ⟩:=Zez aQ;by_cases bI:cc<r.1+r.2.1
      ·have aP:cc<N.length:=by have:=bu.out;omega
       have ab:=ac.cellAt cc (by omega);rw[List.getElem?_map,Zj4 _ _ _ _ aP,decide_eq_false (Nat.lt_irrefl cc),Bool.and_false,Bool.or_false] at ab;simp only[Option.map_some] at ab;have bg:=ac.frozenAt cc;cases ai:N[cc] with
       |true=>
        have aC:ovl (rs.map (·.1)) r=true:=ZoV aE ⟨bi,bI⟩ (by rw[List.getElem?_eq_getElem aP,ai]);have aJ:=QQ (show Zau [] l 0=.inr k by rw[aI.out,if_pos aC]);rw[ai] at ab;clear L ac aH ah ae Z aC;go_wp2_with (go_at_call 279;refine MR (ax _ _) λw4 C=>?_;have aA:=C.size;have au:=(Hb).trans (C.mono (by omega));have J:=QQ (ZB aW C);have I:=QQ (ZB aV C);have ao:=QQ (ak.below C);have an:=QQ ((aD.below C).more aA);have D:=QQ (Zy aX C);have z0:=(cell_of_row _ _ 0 _ _ _ D);have z1:=(cell_of_row _ _ 1 _ _ _ D);have z2:=(cell_of_row _ _ 2 _ _ _ D);have z3:=(cell_of_row _ _ 3 _ _ _ D);simp at z0 z1 z2 z3;have s5:=(C.cell (p:=⟨g5,cc,none⟩) aO).trans ab;obtain⟨⟨c0,c1,c2⟩,⟨f0,f1,f2⟩,g0⟩:=Zez au;have g1:w.heap.size<w4.heap.size:=(by omega))
        refine bodyPost_ret (v:=.tuple #[.agg #[.slice none 0 0],.agg #[.int .i64 5,.int .i64 (k:Nat)]]) (by simp[results,results273,go_sem,World.cell?_alloc_lt,g0,g1,c0,c1,c2]) rfl ?_;exact HE k _ aJ ((((ZfU au).setCell NL _).setCell (by simp) _).setCell (by simp) _)
       |false=>
        rw[ai] at ab;have bJ:N[cc]?=some false:=by rw[List.getElem?_eq_getElem aP,ai]
        clear L ac aH ah ae Z;go_wp2_with (go_at_call 279;refine MR (ax _ _) λw4 C=>?_;have aA:=C.size;have au:=(Hb).trans (C.mono (by omega));have J:=QQ (ZB aW C);have I:=QQ (ZB aV C);have ao:=QQ (ak.below C);have an:=QQ ((aD.below C).more aA);have D:=QQ (Zy aX C);have z0:=(cell_of_row _ _ 0 _ _ _ D);have z1:=(cell_of_row _ _ 1 _ _ _ D);have z2:=(cell_of_row _ _ 2 _ _ _ D);have z3:=(cell_of_row _ _ 3 _ _ _ D);simp at z0 z1 z2 z3;have s5:=(C.cell (p:=⟨g5,cc,none⟩) aO).trans ab;have s6:=(C.frozen (p:=⟨g5,cc,none⟩) aO).trans bg;clear ab bg)
        have a9:=I.stored cc (.bool true);have V:=Zo0 (w:=w4) (g:=g5) (j:=cc) (.bool true);have bf:=(Array.getElem?_eq_some_iff.1 D).1;refine⟨⟨cc+1,by omega,by omega,by simp,λj h1 h2=>?_,?_,J.kept V (.inr (ZjB J I (by decide))),ao.grown I (by decide) V,(ZcS an I (by decide) V NL).more V.size,(V.block _ bf (Zhp I D (by decide))).trans D,au.setCell (p:=⟨g5,cc,none⟩) (I.lt g5 rfl).1 _⟩,by simp[intOf];omega⟩
        ·by_cases hj:j<cc
         ·exact am j h1 hj
         ·obtain rfl:j=cc:=by omega
          exact bJ
        ·rw[ZoX _ _ _ bi,List.map_set];exact a9.1
      ·obtain rfl:cc=r.1+r.2.1:=by omega
       obtain⟨aC,af⟩:=ZoW aE (λx hx=>by obtain⟨y,hy,rfl⟩:=List.mem_map.1 hx;exact(ak y hy).1.1) bX bu (λc h1 h2=>am c h1 h2);have aJ:=QQ (show Zau [] l 0=Zau ((rs++[(r,q)]).map (·.1)) (l.drop (k+1)) (k+1) by rw[aI.out,aC];simp);have aK:=QQ af;clear L ac aH ah ae Z aC af;go_wp2_with (first|(go_at_call 279;refine MR (ax _ _) λw4 C=>?_;have aA:=C.size;have au:=(Hb).trans (C.mono (by omega));have J:=QQ (ZB aW C);have I:=QQ (ZB aV C);have ao:=QQ (ak.below C);have an:=QQ ((aD.below C).more aA);have D:=QQ (Zy aX C);have z0:=(cell_of_row _ _ 0 _ _ _ D);have z1:=(cell_of_row _ _ 1 _ _ _ D);have z2:=(cell_of_row _ _ 2 _ _ _ D);have z3:=(cell_of_row _ _ 3 _ _ _ D);simp at z0 z1 z2 z3)|(at_builtin;refine wpList_append_own _ rfl _ _ 212 rfl (w.heap.size+2) 316 i0 _ 4 48 underlying212 hi b0 bZ bY rfl (by decide) _ rs.length _ rfl (J.alloc _) ⟨w4.heap.size,0,none⟩ 1 1 [.int .i64 (r.1:Int),.int .i64 (r.2.1:Int),.int .i32 r.2.2.1,.slice q.1 q.2.1 q.2.2] rfl rfl ?d1 ?d2 ?d3 ?d4 ?d5 ?_))
       case d1=>exact Zhl w4 _ _ _ _ _
       case d2=>intro u hu;simp only[List.mem_cons,List.not_mem_nil,or_false] at hu;rcases hu with rfl|rfl|rfl|rfl<;>rfl
       case d3=>unfold maxLen;omega
       case d4=>omega
       case d5=>simp;omega
       intro cD w5 O aq bM;have br:=QQ ((I.alloc (.cells #[.int .i64 (r.1:Int),.int .i64 (r.2.1:Int),.int .i32 r.2.2.1,.slice q.1 q.2.1 q.2.2] 316)).kept aq (ZjC I J (by decide)));have bo:=QQ ((ao.below ((Below.refl _ _).alloc NL _)).grown (J.alloc (.cells #[.int .i64 (r.1:Int),.int .i64 (r.2.1:Int),.int .i32 r.2.2.1,.slice q.1 q.2.1 q.2.2] 316)) (by decide) aq);have bm:=QQ ((ZcS ((an.below ((Below.refl _ _).alloc NL _)).more (by simp)) (J.alloc (.cells #[.int .i64 (r.1:Int),.int .i64 (r.2.1:Int),.int .i32 r.2.2.1,.slice q.1 q.2.1 q.2.2] 316)) (by decide) aq NL).more aq.size);have bV:=Zad (au.alloc (by omega) (.cells #[.int .i64 (r.1:Int),.int .i64 (r.2.1:Int),.int .i32 r.2.2.1,.slice q.1 q.2.1 q.2.2] 316)) (J.alloc _) aq (by simp;omega) NL;have aT:=QQ O;clear O aq bM;go_wp2_with fail
       refine⟨⟨k+1,rs++[(r,q)],Zcp N r.1 (r.1+r.2.1),by omega,by simp,aJ,by simp;omega,?_,?_,?_,by rw[Zfu];exact bT,?_,bV⟩,by simp[intOf];omega⟩
       ·have:=aT.out;simpa[rV,slV] using this
       ·rw[Zfu];exact br.out
       ·have:=aK.out;simpa using this
       ·intro x hx;rcases List.mem_append.1 hx with h|h
        ·exact bo x h
        ·simp only[List.mem_singleton] at h;subst h;exact⟨a1,bm⟩
    ·have bD:¬(0:Int)<(r.1:Int)+r.2.1 - bits.length:=by omega
     obtain⟨g5,dB,a8⟩:=ZnX aU (by omega);injection a8 with hA5 _ hc5'
     subst hA5;subst hc5';have aE:=bk;have bu:=QQ (show r.1+r.2.1<=bits.length by omega);have bT:=QQ cV;go_wp2_with (first|(go_at_call 312;refine(bC _ (bL _)).mono ?_;rintro e w1 ⟨q,rfl,bb,aj⟩;have a2:=(hb.alloc (by omega) _).trans (aj.mono (by simp;omega));have b1:=ZY aj;have bq:=QQ (bz.below (Ze aj));have bt:=QQ (ZB (aL.alloc _) aj);have bs:=QQ (ZB (aU.alloc _) aj);have bQ:=QQ bb;clear bb)|(go_at_call 279;refine MR (ax _ _) λw2 Y=>?_;have bW:=(a2.alloc (by omega) _).trans (Y.mono (by simp;omega));have bG:=ZY Y;have bp:=QQ (bq.below (Ze Y));have aY:=QQ (ZB (bt.alloc _) Y);have ay:=QQ (ZB (bs.alloc _) Y);have bn:=QQ ((bQ.below (Ze Y)).more (Nat.le_of_succ_le bG));have H8:=QQ (Zy (heap_alloc_new w1 (.cells #[.int .i64 (r.1:Int),.int .i64 (r.2.1:Int),.int .i32 r.2.2.1,.slice q.1 q.2.1 q.2.2] 316)) Y);obtain⟨⟨x0,x1,x2,x3⟩,_⟩:=bx4 Y))
     clear x0 x1 x2 x3;go_loopw [11] (λi bE=>IwRel (w.heap.size+2) (W2 w) r q rs u4 g5 c5 bits w1.heap.size i bE) (λi _=>r.1+r.2.1 - (intOf i).toNat)
     case atStart=>exact⟨r.1,Nat.le_refl _,by omega,rfl,(λj h1 h2=>by omega),by rw[ZoY];exact ay,aY,bp,bn,H8,bW⟩
     case round=>
      obtain⟨cc,bi,cU,rfl,L,ac,aH,ah,ae,Z,aQ⟩:=hrel;have y0:=cell_of_row _ _ 0 _ _ _ Z;have y1:=cell_of_row _ _ 1 _ _ _ Z;have y2:=cell_of_row _ _ 2 _ _ _ Z;have y3:=cell_of_row _ _ 3 _ _ _ Z;simp at y0 y1 y2 y3;have am:=QQ L;have aV:=QQ ac;have aW:=QQ aH;have ak:=QQ ah;have aD:=QQ ae;have aX:=QQ Z;have Hb:=QQ aQ;have aO:=(ac.lt g5 rfl).2;obtain⟨_,_,cJ⟩:=Zez aQ;by_cases bI:cc<r.1+r.2.1
      ·have aP:cc<bits.length:=by have:=bu.out;omega
       have ab:=ac.cellAt cc (by omega);rw[List.getElem?_map,Zj4 _ _ _ _ aP,decide_eq_false (Nat.lt_irrefl cc),Bool.and_false,Bool.or_false] at ab;simp only[Option.map_some] at ab;have bg:=ac.frozenAt cc;cases ai:bits[cc] with
       |true=>
        have aC:ovl (rs.map (·.1)) r=true:=ZoV aE ⟨bi,bI⟩ (by rw[List.getElem?_eq_getElem aP,ai]);have aJ:=QQ (show Zau [] l 0=.inr k by rw[aI.out,if_pos aC]);rw[ai] at ab;clear L ac aH ah ae Z aC;go_wp2_with (go_at_call 279;refine MR (ax _ _) λw4 C=>?_;have aA:=C.size;have au:=(Hb).trans (C.mono (by omega));have J:=QQ (ZB aW C);have I:=QQ (ZB aV C);have ao:=QQ (ak.below C);have an:=QQ ((aD.below C).more aA);have D:=QQ (Zy aX C);have z0:=(cell_of_row _ _ 0 _ _ _ D);have z1:=(cell_of_row _ _ 1 _ _ _ D);have z2:=(cell_of_row _ _ 2 _ _ _ D);have z3:=(cell_of_row _ _ 3 _ _ _ D);simp at z0 z1 z2 z3;have s5:=(C.cell (p:=⟨g5,cc,none⟩) aO).trans ab;obtain⟨⟨c0,c1,c2⟩,⟨f0,f1,f2⟩,g0⟩:=Zez au;have g1:w.heap.size<w4.heap.size:=(by omega))
        refine bodyPost_ret (v:=.tuple #[.agg #[.slice none 0 0],.agg #[.int .i64 5,.int .i64 (k:Nat)]]) (by simp[results,results273,go_sem,World.cell?_alloc_lt,g0,g1,c0,c1,c2]) rfl ?_;exact HE k _ aJ ((((ZfU au).setCell NL _).setCell (by simp) _).setCell (by simp) _)
       |false=>
        rw[ai] at ab;have bJ:bits[cc]?=some false:=by rw[List.getElem?_eq_getElem aP,ai]
        clear L ac aH ah ae Z;go_wp2_with (go_at_call 279;refine MR (ax _ _) λw4 C=>?_;have aA:=C.size;have au:=(Hb).trans (C.mono (by omega));have J:=QQ (ZB aW C);have I:=QQ (ZB aV C);have ao:=QQ (ak.below C);have an:=QQ ((aD.below C).more aA);have D:=QQ (Zy aX C);have z0:=(cell_of_row _ _ 0 _ _ _ D);have z1:=(cell_of_row _ _ 1 _ _ _ D);have z2:=(cell_of_row _ _ 2 _ _ _ D);have z3:=(cell_of_row _ _ 3 _ _ _ D);simp at z0 z1 z2 z3;have s5:=(C.cell (p:=⟨g5,cc,none⟩) aO).trans ab;have s6:=(C.frozen (p:=⟨g5,cc,none⟩) aO).trans bg;clear ab bg)
        have a9:=I.stored cc (.bool true);have V:=Zo0 (w:=w4) (g:=g5) (j:=cc) (.bool true);have bf:=(Array.getElem?_eq_some_iff.1 D).1;refine⟨⟨cc+1,by omega,by omega,by simp,λj h1 h2=>?_,?_,J.kept V (.inr (ZjB J I (by decide))),ao.grown I (by decide) V,(ZcS an I (by decide) V NL).more V.size,(V.block _ bf (Zhp I D (by decide))).trans D,au.setCell (p:=⟨g5,cc,none⟩) (I.lt g5 rfl).1 _⟩,by simp[intOf];omega⟩
        ·by_cases hj:j<cc
         ·exact am j h1 hj
         ·obtain rfl:j=cc:=by omega
          exact bJ
        ·rw[ZoX _ _ _ bi,List.map_set];exact a9.1
      ·obtain rfl:cc=r.1+r.2.1:=by omega
       obtain⟨aC,af⟩:=ZoW aE (λx hx=>by obtain⟨y,hy,rfl⟩:=List.mem_map.1 hx;exact(ak y hy).1.1) bX bu (λc h1 h2=>am c h1 h2);have aJ:=QQ (show Zau [] l 0=Zau ((rs++[(r,q)]).map (·.1)) (l.drop (k+1)) (k+1) by rw[aI.out,aC];simp);have aK:=QQ af;clear L ac aH ah ae Z aC af;go_wp2_with (first|(go_at_call 279;refine MR (ax _ _) λw4 C=>?_;have aA:=C.size;have au:=(Hb).trans (C.mono (by omega));have J:=QQ (ZB aW C);have I:=QQ (ZB aV C);have ao:=QQ (ak.below C);have an:=QQ ((aD.below C).more aA);have D:=QQ (Zy aX C);have z0:=(cell_of_row _ _ 0 _ _ _ D);have z1:=(cell_of_row _ _ 1 _ _ _ D);have z2:=(cell_of_row _ _ 2 _ _ _ D);have z3:=(cell_of_row _ _ 3 _ _ _ D);simp at z0 z1 z2 z3)|(at_builtin;refine wpList_append_own _ rfl _ _ 212 rfl (w.heap.size+2) 316 i0 _ 4 48 underlying212 hi b0 bZ bY rfl (by decide) _ rs.length _ rfl (J.alloc _) ⟨w4.heap.size,0,none⟩ 1 1 [.int .i64 (r.1:Int),.int .i64 (r.2.1:Int),.int .i32 r.2.2.1,.slice q.1 q.2.1 q.2.2] rfl rfl ?d1 ?d2 ?d3 ?d4 ?d5 ?_))
       case d1=>exact Zhl w4 _ _ _ _ _
       case d2=>intro u hu;simp only[List.mem_cons,List.not_mem_nil,or_false] at hu;rcases hu with rfl|rfl|rfl|rfl<;>rfl
       case d3=>unfold maxLen;omega
       case d4=>omega
       case d5=>simp;omega
       intro cD w5 O aq bM;have br:=QQ ((I.alloc (.cells #[.int .i64 (r.1:Int),.int .i64 (r.2.1:Int),.int .i32 r.2.2.1,.slice q.1 q.2.1 q.2.2] 316)).kept aq (ZjC I J (by decide)));have bo:=QQ ((ao.below ((Below.refl _ _).alloc NL _)).grown (J.alloc (.cells #[.int .i64 (r.1:Int),.int .i64 (r.2.1:Int),.int .i32 r.2.2.1,.slice q.1 q.2.1 q.2.2] 316)) (by decide) aq);have bm:=QQ ((ZcS ((an.below ((Below.refl _ _).alloc NL _)).more (by simp)) (J.alloc (.cells #[.int .i64 (r.1:Int),.int .i64 (r.2.1:Int),.int .i32 r.2.2.1,.slice q.1 q.2.1 q.2.2] 316)) (by decide) aq NL).more aq.size);have bV:=Zad (au.alloc (by omega) (.cells #[.int .i64 (r.1:Int),.int .i64 (r.2.1:Int),.int .i32 r.2.2.1,.slice q.1 q.2.1 q.2.2] 316)) (J.alloc _) aq (by simp;omega) NL;have aT:=QQ O;clear O aq bM;go_wp2_with fail
       refine⟨⟨k+1,rs++[(r,q)],Zcp bits r.1 (r.1+r.2.1),by omega,by simp,aJ,by simp;omega,?_,?_,?_,by rw[Zfu];exact bT,?_,bV⟩,by simp[intOf];omega⟩
       ·have:=aT.out;simpa[rV,slV] using this
       ·rw[Zfu];exact br.out
       ·have:=aK.out;simpa using this
       ·intro x hx;rcases List.mem_append.1 hx with h|h
        ·exact bo x h
        ·simp only[List.mem_singleton] at h;subst h;exact⟨a1,bm⟩
  ·have cQ:k=l.length:=by omega
   subst cQ;have Hn:=QQ (show Zau [] l 0=.inl (rs.map (·.1)) by rw[bv,List.drop_of_length_le NL];rfl);obtain⟨A4,c4,cL,dy,_⟩:=Reads.of_own X;subst cL;have cW:=ZkE (w.heap.size+2) (.slice A4 rs.length c4) rs wr X (by omega) (by omega);have cg:=QQ (show∀ad,A4=some ad->w.heap.size+2<=ad.block from λad h=>(X.lt ad.block (by rw[h];rfl)).1);have bz:=QQ bc;have aL:=QQ X;clear bv X aB aF bc;go_wp2_with (go_at_call 313;refine cW.mono ?_;rintro e w9 ⟨rfl,A5,c5,rs',a8,cT,be,ba,b3,aQ,b9⟩;have bU:=hb.trans aQ;obtain⟨⟨c0,c1,c2⟩,⟨f0,f1,f2⟩,g0⟩:=Zez bU;injection a8 with hA5 _ hcc5;subst hA5;subst hcc5;have aS:=QQ be;have bP:=QQ ba;have c8:=QQ b3;clear be ba b3)
   obtain⟨n1,n2⟩:=Zvb bU;have b6:rs'.length=rs.length:=aS.length_eq;have b2:ZbQ w9 rs':=λx hx=>bz.grown aL (by decide) b9 x (aS.mem_iff.1 hx);have hf:=HO.out A4 c4 rs' (((w9.setCell ⟨w.heap.size,0,none⟩ (.slice A4 rs.length c4)).setCell ⟨w.heap.size+1,0,none⟩ (.int .i64 0)).setCell ⟨w.heap.size+1,1,none⟩ (.int .i64 0)) ⟨rs,Hn,aS,bP⟩ (by omega) (c8.set3 cg (by omega) (by omega) _ _ _) (b2.set3 _ _ _ n1 n2 (by decide) (by decide)) ((((ZfU bU).setCell NL _).setCell (by simp) _).setCell (by simp) _);rw[b6] at hf;refine bodyPost_ret (v:=.tuple #[.agg #[.slice A4 rs.length c4],.agg #[.int .i64 0,.int .i64 0]]) (by simp[results,results273,go_sem,c0,c1,c2]) rfl ?_;exact hf
