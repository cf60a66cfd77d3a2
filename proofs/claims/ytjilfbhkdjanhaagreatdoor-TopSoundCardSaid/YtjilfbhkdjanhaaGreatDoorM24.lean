/- Lemmas for a statement on the tops; conditions: as each says. -/
import Derived.Test.YtjilfbhkdjanhaaGreatDoorM23
set_option linter.all false
set_option maxRecDepth 100000
set_option maxHeartbeats 8000000
open Go.Proofs.Tryz
namespace Go.Proofs.YtjilfbhkdjanhaaGreatDoor
open Go Go.RowKit
def TbR(w:World)(B:Nat)(A:Option Addr)(rs:List (Rw×Sl)):Prop:=Zc1 w B A rs/\(∀x∈rs,Za3 x.1/\ZI w B x)/\Zei (rs.map (·.1))
def TbR.below{w w':World}{B:Nat}{A:Option Addr}{rs:List (Rw×Sl)}(h:TbR w B A rs)(hb:Below B w w'):TbR w' B A rs:=by
 obtain⟨⟨C,y⟩,q,u⟩:=h;exact⟨⟨C.below hb,y⟩,λx j=>⟨(q x j).1,(q x j).2.below hb⟩,u⟩
def TbR.more{w:World}{B B':Nat}{A:Option Addr}{rs:List (Rw×Sl)}(h:TbR w B A rs)(hb:B<=B'):TbR w B' A rs:=by
 obtain⟨⟨C,y⟩,q,u⟩:=h;exact⟨⟨C.more hb,y⟩,λx j=>⟨(q x j).1,(q x j).2.more hb⟩,u⟩
def Zg0(j:Addr)(k i:Nat)(q:i≠0):j.add (k+i)=⟨(j.add k).block,(j.add k).off+i,none⟩:=by
 rw[<-Ziz];show(if i=0 then _ else _)=_
 rw[if_neg q]
def TbR.row{w:World}{B:Nat}{A:Option Addr}{rs:List (Rw×Sl)}(h:TbR w B A rs){k:Nat}{x:Rw×Sl}(q:rs[k]?=some x):
 ∃j,A=some j/\j.block<B/\w.cell? (j.add (k*4))=some (.int .i64 (x.1.1:Int))/\w.cell? ⟨(j.add (k*4)).block,(j.add (k*4)).off+1,none⟩=some (.int .i64 (x.1.2.1:Int))/\
  w.cell? ⟨(j.add (k*4)).block,(j.add (k*4)).off+2,none⟩=some (.int .i32 x.1.2.2.1)/\w.cell? ⟨(j.add (k*4)).block,(j.add (k*4)).off+3,none⟩=some (.slice x.2.1 x.2.2.1 x.2.2.2)/\Za3 x.1/\ZI w B x/\x∈rs:=by
 obtain⟨⟨⟨_,X⟩,_⟩,D,_⟩:=h;have O:k<rs.length:=by
  rcases Nat.lt_or_ge k rs.length with h|h
  ·exact h
  ·rw[List.getElem?_eq_none h] at q;cases q
 obtain⟨j,W,hb,V⟩:=X (by omega);have C:=List.mem_of_getElem? q;have y:∀i u,(rV x)[i]?=some u->i<4->w.cell? (j.add (k*4+i))=some u:=λi u N U=>V _ _ ((Zhj rV ZeC rs k i x q U).trans N);have g0:=y 0 _ rfl (by omega);have L:=y 1 _ rfl (by omega);have J:=y 2 _ rfl (by omega);have I:=y 3 _ rfl (by omega);rw[Nat.add_zero] at g0;rw[Zg0 _ _ _ (by omega)] at L J I;exact⟨j,W,hb,g0,L,J,I,(D x C).1,(D x C).2,C⟩
def szR(rs:List (Rw×Sl)):Nat:=(rs.map λx:Rw×Sl=>x.1.2.1).sum
def ZwT(rs:List (Rw×Sl))(k:Nat)(x:Rw×Sl)(h:rs[k]?=some x):szR (rs.take (k+1))=szR (rs.take k)+x.1.2.1:=by
 unfold szR;rw[List.take_add_one,h];simp
def Zpi:∀(rs:List (Rw×Sl)) (j:Nat),j<=1048576->(∀x∈rs,j<=x.1.1)->(rs.map (·.1)).Pairwise (λa b=>a.1+a.2.1<=b.1)->(∀x∈rs,x.1.1+x.1.2.1<=1048576)->j+szR rs<=1048576
 |[],j,h,_,_,_=>by simpa[szR] using h
 |x::rs,j,h,I,u,C=>by
  rw[List.map_cons,List.pairwise_cons] at u;have D:=C x (by simp);have J:=I x (by simp);have:=Zpi rs (x.1.1+x.1.2.1) D (λy q=>u.1 _ (List.mem_map_of_mem q)) u.2 (λy q=>C y (by simp[q]));have e:szR (x::rs)=x.1.2.1+szR rs:=by simp[szR]
  omega
def TbR.total{w:World}{B:Nat}{A:Option Addr}{rs:List (Rw×Sl)}(h:TbR w B A rs):szR rs<=1048576:=by
 have:=Zpi rs 0 (by omega) (λ_ _=>Nat.zero_le _) h.2.2.1 (λx j=>(h.2.1 x j).1.2.1);omega
def Zpj(rs:List (Rw×Sl))(k:Nat):szR (rs.take k)<=szR rs:=by
 unfold szR
 conv=>rhs;rw[<-List.take_append_drop k rs]
 rw[List.map_append,List.sum_append];omega
def ZhS(rs:List (Rw×Sl)):((rs.map (·.1)).flatMap prs).length=szR rs:=by
 unfold szR;induction rs with
 |nil=>rfl
 |cons x rs j=>rw[List.map_cons,List.flatMap_cons,List.length_append,ZhG,j];simp
def SzRel(rs:List (Rw×Sl))(w0:World)(v i:Value)(wr:World):Prop:=∃k:Nat,k<=rs.length/\i=.int .i64 k/\v=.int .i64 (szR (rs.take k):Nat)/\Below w0.heap.size w0 wr
def ZrW(A:Option Addr)(c:Nat)(rs:List (Rw×Sl))(hn:rs.length<=35184372089000)(w:World)(h:TbR w w.heap.size A rs):
 Calls prog 278 #[.agg #[.slice A rs.length c]] w λe w'=>e=.returned (.int .i64 (szR rs:Nat))/\Below w.heap.size w w':=by
 have y:=h.total;go_enter func278,ntmps278
 go_wp2_with fail
 go_loopw [3,9] (λv i wr=>SzRel rs w v i wr) (λ_ i _=>rs.length - (intOf i).toNat)
 case atStart=>exact⟨0,by omega,rfl,rfl,(Below.refl _ w).alloc NL _⟩
 case round=>
  obtain⟨k,X,rfl,rfl,hb⟩:=hrel;by_cases j:k<rs.length
  ·obtain⟨x,u⟩:∃x,rs[k]?=some x:=⟨_,List.getElem?_eq_getElem j⟩
   obtain⟨Y,rfl,D,V,U,O,N,I,_,_⟩:=(h.below hb).row u;have W:=hb.size;have hs:=ZwT rs k x u;have q:=Zpj rs (k+1);have J:IntKind.i64.wrap ((szR (rs.take k):Nat)+(x.1.2.1:Int))=((szR (rs.take (k+1)):Nat):Int):=by rw[hs,IntWalk.i64_in _ (by omega)];simp
   clear hs;generalize C:szR (rs.take (k+1))=s' at J;have L:=QQ C;clear C q;generalize szR (rs.take k)=s at*;go_wp2_with fail
   go_roundw
   case rel=>exact⟨k+1,by omega,by simp,by rw[L.out],hb.alloc (by omega) _⟩
   case measure=>simp[intOf];omega
  ·obtain rfl:k=rs.length:=by omega
   rw[List.take_length];go_wp2_with fail
   go_ret
   exact⟨rfl,hb⟩
def ZvC:(prog.info? 272).map (λi=>(i.zero,i.size,i.bytes))=some (some (.agg #[.int .i64 0,.int .i32 0]),2,16):=by kernel_rfl
def prV(x:Pr):List Value:=[.int .i64 (x.1:Int),.int .i32 x.2]
def Zcq(rs:List (Rw×Sl))(k:Nat):List Pr:=((rs.take k).map (·.1)).flatMap prs
def Zxq(rs:List (Rw×Sl))(k:Nat):(Zcq rs k).length=szR (rs.take k):=ZhS _
def Zpt(rs:List (Rw×Sl))(k:Nat)(x:Rw×Sl)(h:rs[k]?=some x):Zcq rs (k+1)=Zcq rs k++prs x.1:=by
 unfold Zcq;rw[List.take_add_one,h];simp
def ZvS(r:Rw)(j:Nat)(h:j<r.2.1):(prs r).take (j+1)=(prs r).take j++[(r.1+j,Zbi r j)]:=by
 have:(prs r)[j]?=some (r.1+j,Zbi r j):=by
  unfold prs;rw[List.getElem?_map,List.getElem?_range h];rfl
 rw[List.take_add_one,this];rfl
def PaRel(rs:List (Rw×Sl))(w0:World)(v i:Value)(wr:World):Prop:=∃k:Nat,k<=rs.length/\i=.int .i64 k/\wr.ownsRow w0.heap.size 272 2 v (Zcq rs k).length ((Zcq rs k).flatMap prV)/\Below w0.heap.size w0 wr
def PiRel(L:List Pr)(x:Rw×Sl)(B5:Nat)(w0:World)(v c:Value)(wr:World):Prop:=∃j:Nat,j<=x.1.2.1/\c=.int .i64 ((x.1.1+j:Nat):Int)/\wr.ownsRow w0.heap.size 272 2 v (L++(prs x.1).take j).length ((L++(prs x.1).take j).flatMap prV)/\
 wr.heap[B5]?=some (.cells #[.int .i64 (x.1.1:Int),.int .i64 (x.1.2.1:Int),.int .i32 x.1.2.2.1,.slice x.2.1 x.2.2.1 x.2.2.2] 316 (0,0))/\Below w0.heap.size w0 wr
def Zin(L:List Pr)(w0:World)(e:Ending)(w':World):Prop:=∃A c,e=.returned (.slice A L.length c)/\L.length<=c/\Reads w' w'.heap.size 2 A L.length (L.flatMap prV)/\Below w0.heap.size w0 w'
def Zxf(w:World)(a b:Value)(T:TypeId):∀j u,[a,b][j]?=some u->(w.alloc (.cells #[a,b] T)).cell? ((⟨w.heap.size,0,none⟩:Addr).add j)=some u:=by
 intro j u q;rw[addr_eq rfl];show(w.alloc _).cell? ⟨w.heap.size,0+j,none⟩=_
 rw[Nat.zero_add,cell_of_row _ w.heap.size j _ T (0,0) (heap_alloc_new w _)];simpa using q
def Zle(L:List Pr)(w0:World)(e:Ending)(w':World):Prop:=∃v,e=.returned v/\w'.ownsRow w0.heap.size 272 2 v L.length (L.flatMap prV)/\Below w0.heap.size w0 w'
def Zri(A:Option Addr)(c:Nat)(rs:List (Rw×Sl))(hn:rs.length<=35184372089000)(w:World)(h:TbR w w.heap.size A rs):
 Calls prog 229 #[.agg #[.slice A rs.length c]] w (Zle ((rs.map (·.1)).flatMap prs) w):=by
 have a7:=h.total;have U:=λo=>ZrW A c rs hn (w.alloc o) ((h.below ((Below.refl _ _).alloc NL o)).more (by simp));obtain⟨i0,hi,am,ak,aj⟩:=info_parts ZvC;have X:Zcq rs rs.length=(rs.map (·.1)).flatMap prs:=by unfold Zcq;rw[List.take_length]
 generalize hP:Zle ((rs.map (·.1)).flatMap prs) w=P at*;go_enter func229,ntmps229
 go_wp2_with (first|(go_at_call 278;refine MR (U _) λw1 N=>?_;have aZ:=Ze N;have bj:=ZY N;have q1:=Zy (heap_alloc_new w (.cells #[.slice A rs.length c] 214)) N;have q2:=cell_of_row _ _ 0 _ _ _ q1;simp at q2)|(at_make;refine wpList_make_own _ rfl _ _ 269 rfl w.heap.size 272 i0 (.agg #[.int .i64 0,.int .i32 0]) 2 underlying269 hi am ak .i64 .i64 _ (szR rs) rfl rfl rfl (by rw[aj];omega) (by unfold maxLen;omega) (by omega) ?_;intro w3 ao y;have bh:=y.size;have q3:=(y.block w.heap.size (by omega) (by simp)).trans q1;have q4:=cell_of_row _ _ 0 _ _ _ q3;simp at q4;have aY:=aZ.grown y (by omega) (λk hk=>by cases hk)))
 clear q1 q2 q3 q4 U N y;go_loopw [3,13] (λv i wr=>PaRel rs w v i wr) (λ_ i _=>rs.length - (intOf i).toNat)
 case atStart=>exact⟨0,by omega,rfl,ao,aY⟩
 case round=>
  obtain⟨k,hk,rfl,ho,hb⟩:=hrel;have hz:=hb.size;by_cases aM:k<rs.length
  ·obtain⟨x,hx⟩:∃x,rs[k]?=some x:=⟨_,List.getElem?_eq_getElem aM⟩
   obtain⟨ad,rfl,bb,y0,y1,y2,y3,J,bk,_⟩:=(h.below hb).row hx;have Z:=Zpt rs k x hx;have a8:(Zcq rs k).length+x.1.2.1<=1048576:=by
    have:=congrArg List.length Z;rw[List.length_append,ZhG,Zxq rs (k+1)] at this;have:=Zpj rs (k+1);omega
   have Ho:=QQ ho;have aQ:=QQ Z;clear ho Z;go_wp2_with fail
   clear X;have an:=(h.2.1 x (List.mem_of_getElem? hx)).2;have V:=λv W=>ZdF x.1.1 x.1.2.1 x.1.2.2.1 v J.2.1 W;have bf:=J.1;have be:=J.2.1;clear y0 y1 y2 y3;go_loopw [3,6] (λv c2 aF=>PiRel (Zcq rs k) x wr.heap.size w v c2 aF) (λ_ c2 _=>x.1.1+x.1.2.1 - (intOf c2).toNat)
   case atStart=>exact⟨0,by omega,by simp,by simpa using Ho.alloc _,heap_alloc_new wr _,hb.alloc (by omega) _⟩
   case round=>
    obtain⟨j,hj,rfl,I,Y,ac⟩:=hrel;have bi:=ac.size;have y0:=cell_of_row _ _ 0 _ _ _ Y;have y1:=cell_of_row _ _ 1 _ _ _ Y;have y2:=cell_of_row _ _ 2 _ _ _ Y;have y3:=cell_of_row _ _ 3 _ _ _ Y;simp at y0 y1 y2 y3;have aT:=QQ I;have H5:=QQ Y;have bm:=(Array.getElem?_eq_some_iff.1 Y).1;by_cases aO:j<x.1.2.1
    ·have aq:(Zcq rs k++(prs x.1).take j).length=(Zcq rs k).length+j:=by rw[List.length_append,List.length_take,ZhG];omega
     have aa:=λW (hB:Below w.heap.size w W)=>Zlk x (x.1.1+j) J ⟨by omega,by omega⟩ W ((an.below hB).more hB.size);unfold rV slV at aa;rw[show x.1.1+j - x.1.1=j by omega] at aa;have au:=QQ aq;have ap:=ZvS x.1 j aO;have aU:=QQ ap;generalize Zbi x.1 j=sg at*;clear I Y aq ap;go_wp2_with (first|(go_at_call 279;refine MR (V _ _) λw4 C=>?_;have aJ:=C.size;have O:=ac.trans (C.mono (by omega));have aV:=QQ (ZB aT C);have q:=QQ (Zy H5 C);have z0:=(cell_of_row _ _ 0 _ _ _ q);have z1:=(cell_of_row _ _ 1 _ _ _ q);have z2:=(cell_of_row _ _ 2 _ _ _ q);have z3:=(cell_of_row _ _ 3 _ _ _ q);simp at z0 z1 z2 z3)|(go_at_call 280;refine MR (aa _ O) λw5 L=>?_;have bg:=L.size;have aX:=O.trans (L.mono (by omega));have ah:=QQ (ZB aV L);have aw:=QQ (Zy q L))|(at_builtin;refine wpList_append_own _ rfl _ _ 269 rfl w.heap.size 272 i0 _ 2 16 underlying269 hi am ak aj rfl (by decide) _ _ _ rfl (ah.alloc _) ⟨w5.heap.size,0,none⟩ 1 1 [.int .i64 ((x.1.1:Int)+j),.int .i32 sg] rfl rfl ?d1 ?d2 ?d3 ?d4 ?d5 ?_))
     case d1=>exact Zxf w5 _ _ _
     case d2=>intro u hu;simp only[List.mem_cons,List.not_mem_nil,or_false] at hu;rcases hu with rfl|rfl<;>rfl
     case d3=>have:=au.out;unfold maxLen;omega
     case d4=>have:=au.out;omega
     case d5=>simp;omega
     intro v6 w6 D ab aP;have aW:=Zad (aX.alloc (by omega) (.cells #[.int .i64 ((x.1.1:Int)+j),.int .i32 sg] 272)) (ah.alloc _) ab (by simp;omega) NL;have aN:=(Array.getElem?_eq_some_iff.1 aw).1;have ae:=(Below.heap_alloc w5 (.cells #[.int .i64 ((x.1.1:Int)+j),.int .i32 sg] 272) _ aN).trans aw.out;have a1:=QQ ((ab.block _ (by simp;omega) (Zhp (ah.alloc _) ae (by decide))).trans ae);clear ae;have af:=QQ D;clear D ab aP;go_wp2_with fail
     refine⟨⟨j+1,by omega,by simp;omega,?_,a1,aW⟩,by simp[intOf];omega⟩;have:=af.out;rw[aU.out,<-List.append_assoc,List.flatMap_append,List.length_append];simpa[prV] using this
    ·obtain rfl:j=x.1.2.1:=by omega
     rw[List.take_of_length_le (by rw[ZhG];omega),<-aQ.out] at I;have aS:=QQ I;clear I Y;go_wp2_with (go_at_call 279;refine MR (V _ _) λw4 C=>?_;have aJ:=C.size;have O:=ac.trans (C.mono (by omega));have q:=QQ (Zy H5 C);have z0:=(cell_of_row _ _ 0 _ _ _ q);have z1:=(cell_of_row _ _ 1 _ _ _ q);have z2:=(cell_of_row _ _ 2 _ _ _ q);have z3:=(cell_of_row _ _ 3 _ _ _ q);simp at z0 z1 z2 z3)
     refine⟨⟨k+1,by omega,by simp,ZB aS C,O⟩,by simp[intOf];omega⟩
  ·obtain rfl:k=rs.length:=by omega
   rw[X] at ho;obtain⟨A3,c3,rfl,bn,aL⟩:=Reads.of_own ho;have aR:=QQ ho;clear ho aL;go_wp2_with fail
   show P (.returned (.slice A3 ((rs.map (·.1)).flatMap prs).length c3)) wr
   rw[<-hP];exact⟨_,rfl,aR,hb⟩
def Zlb(A:Option Addr)(c:Nat)(rs:List (Rw×Sl))(hn:rs.length<=35184372089000)(w:World)(h:TbR w w.heap.size A rs):
 Calls prog 229 #[.agg #[.slice A rs.length c]] w (Zin ((rs.map (·.1)).flatMap prs) w):=
 (Zri A c rs hn w h).mono λe w' ⟨v,h1,h2,h3⟩=>by
  obtain⟨y,u,rfl,q,j⟩:=Reads.of_own h2;exact⟨y,u,h1,q,j,h3⟩
def Zw(rs:List (Rw×Sl)):List Pr:=(rs.map (·.1)).flatMap prs
def Zgc{rs:List (Rw×Sl)}{y:Pr}:y∈Zw rs↔∃x∈rs,y∈prs x.1:=by
 unfold Zw;rw[List.mem_flatMap];constructor
 ·rintro⟨r,u,j⟩;obtain⟨x,q,rfl⟩:=List.mem_map.1 u;exact⟨x,q,j⟩
 ·rintro⟨x,q,j⟩;exact⟨x.1,List.mem_map_of_mem q,j⟩
def hasT{rs:List (Rw×Sl)}{c:Nat}:Zan (Zw rs) c=true↔∃x∈rs,x.1.1<=c/\c<x.1.1+x.1.2.1:=by
 rw[Zf8];constructor
 ·rintro⟨y,q,rfl⟩;obtain⟨x,j,h⟩:=Zgc.1 q;have:=Zcm.1 h;exact⟨x,j,this.1,this.2.1⟩
 ·rintro⟨x,j,C,u⟩;exact⟨(c,Zbi x.1 (c - x.1.1)),Zgc.2 ⟨x,j,Zcm.2 ⟨C,u,rfl⟩⟩,rfl⟩
def ZaP(ts:List (Rw×Sl))(done:Pr->Prop)(ps:List (Rw×Sl))(cur:Nat):Prop:=
 (∀y,(∃x∈ps,y∈prs x.1)↔done y/\Zan (Zw ts) y.1=false)/\((ps.map (·.1)).Pairwise λa b=>a.1+a.2.1<=b.1)/\(∀x∈ps,x.1.1+x.1.2.1<=cur)/\∀x∈ps,Za3 x.1
section
variable {ts ps:List (Rw×Sl)} {done:Pr->Prop} {cur:Nat}
theorem ZaP.mem(h:ZaP ts done ps cur):∀y,(∃x∈ps,y∈prs x.1)↔done y/\Zan (Zw ts) y.1=false:=h.1
theorem ZaP.asc(h:ZaP ts done ps cur):(ps.map (·.1)).Pairwise λa b=>a.1+a.2.1<=b.1:=h.2.1
theorem ZaP.le(h:ZaP ts done ps cur):∀x∈ps,x.1.1+x.1.2.1<=cur:=h.2.2.1
theorem ZaP.ok(h:ZaP ts done ps cur):∀x∈ps,Za3 x.1:=h.2.2.2
end
def ov_nil(ts:List (Rw×Sl))(cur:Nat):ZaP ts (λ_=>False) [] cur:=⟨by simp,by simp,by simp,by simp⟩
def ZaP.more{ts:List (Rw×Sl)}{d q:Pr->Prop}{ps:List (Rw×Sl)}{cur j:Nat}(h:ZaP ts d ps cur)(hd:∀y,Zan (Zw ts) y.1=false->(d y↔q y))(C:cur<=j):ZaP ts q ps j:=
 ⟨λy=>by rw[h.mem];constructor<;>(rintro⟨a,b⟩;exact⟨by first|exact(hd y b).1 a|exact(hd y b).2 a,b⟩),h.asc,λx u=>Nat.le_trans (h.le x u) C,h.ok⟩
def ZaP.part{ts:List (Rw×Sl)}{d:Pr->Prop}{ps:List (Rw×Sl)}{a b:Nat}{r:Rw}{q:Sl}(h:ZaP ts d ps a)(L:Za3 r)(I:r.1<=a)(V:a<b)(D:b<=r.1+r.2.1)(hn:∀c,a<=c->c<b->Zan (Zw ts) c=false):
 ZaP ts (λy=>d y\/(y∈prs r/\a<=y.1/\y.1<b)) (ps++[(ZC r a b,q)]) b:=by
 refine⟨λy=>?_,?_,λx j=>?_,λx j=>?_⟩
 ·constructor
  ·rintro⟨x,j,u⟩;rcases List.mem_append.1 j with j|j
   ·have:=(h.mem y).1 ⟨x,j,u⟩;exact⟨.inl this.1,this.2⟩
   ·simp only[List.mem_singleton] at j;subst j;have:=(Zod I D).1 u;exact⟨.inr ⟨this.2.2,this.1,this.2.1⟩,hn _ this.1 this.2.1⟩
  ·rintro⟨u|⟨u,U,O⟩,N⟩
   ·obtain⟨x,j,C⟩:=(h.mem y).2 ⟨u,N⟩;exact⟨x,by simp[j],C⟩
   ·exact⟨_,List.mem_append_right _ (List.mem_singleton.2 rfl),(Zod I D).2 ⟨U,O,u⟩⟩
 ·rw[List.map_append,List.pairwise_append];refine⟨h.asc,by simp,λx j y u=>?_⟩;simp only[List.map_cons,List.map_nil,List.mem_singleton] at u;subst u;obtain⟨z,J,rfl⟩:=List.mem_map.1 j;exact h.le z J
 ·rcases List.mem_append.1 j with j|j
  ·have:=h.le x j;omega
  ·simp only[List.mem_singleton] at j;subst j;show a+(b - a)<=b
   omega
 ·rcases List.mem_append.1 j with j|j
  ·exact h.ok x j
  ·simp only[List.mem_singleton] at j;subst j;exact ZhC L I V D
def ov_end{ts os ps rs:List (Rw×Sl)}{cur:Nat}(L:Zei (ts.map (·.1)))(ho:Zei (os.map (·.1)))(h:ZaP ts (λy=>y∈Zw os) ps cur)(D:rs.Perm (ts++ps))(hs:rs.Pairwise λa b=>a.1.1<=b.1.1):
 Zei (rs.map (·.1))/\Zw rs=ZeA (Zw ts) (Zw os):=by
 have I:∀x∈rs,Za3 x.1:=λx q=>by
  rcases List.mem_append.1 (D.mem_iff.1 q) with j|j
  ·exact L.2 _ (List.mem_map_of_mem j)
  ·exact h.ok x j
 have V:((ts++ps).map (·.1)).Pairwise ZcY:=by
  rw[List.map_append,List.pairwise_append];refine⟨L.1.imp λh=>.inl h,h.asc.imp λh=>.inl h,λa ha b hb=>?_⟩;obtain⟨x,q,rfl⟩:=List.mem_map.1 ha;obtain⟨y,u,rfl⟩:=List.mem_map.1 hb;have Y:=(L.2 _ (List.mem_map_of_mem (f:=(·.1)) q)).1;have X:=(h.ok y u).1;unfold ZcY;rcases Nat.lt_or_ge (max x.1.1 y.1.1) (x.1.1+x.1.2.1) with j|j
  ·rcases Nat.lt_or_ge (max x.1.1 y.1.1) (y.1.1+y.1.2.1) with W|W
   ·have:=((h.mem (max x.1.1 y.1.1,Zbi y.1 (max x.1.1 y.1.1 - y.1.1))).1 ⟨y,u,Zcm.2 ⟨by simp;omega,by simp;omega,rfl⟩⟩).2;have h3:Zan (Zw ts) (max x.1.1 y.1.1)=true:=hasT.2 ⟨x,q,by omega,j⟩;simp only at this;rw[h3] at this;cases this
   ·omega
  ·omega
 have J:(rs.map (·.1)).Pairwise ZcY:=by
  refine((D.map _).pairwise_iff ?_).2 V;intro a b h;unfold ZcY at*;omega
 have C:(rs.map (·.1)).Pairwise λa b=>a.1+a.2.1<=b.1:=by
  have N:(rs.map (·.1)).Pairwise λa b=>a.1<=b.1:=by rw[List.pairwise_map];exact hs
  refine(N.and J).imp_of_mem ?_;intro a b ab U h;obtain⟨j,W⟩:=h;obtain⟨x,q,rfl⟩:=List.mem_map.1 U;have:=(I x q).1;unfold ZcY at W;omega
 have O:Zei (rs.map (·.1)):=⟨C,λr Z=>by obtain⟨x,q,rfl⟩:=List.mem_map.1 Z;exact I x q⟩
 refine⟨O,Zvv (Zgp _ L.1) (Zgp _ ho.1) (Zgp _ C) λy=>?_⟩;rw[show y∈Zw rs↔∃x∈rs,y∈prs x.1 from Zgc];constructor
 ·rintro⟨x,q,u⟩;rcases List.mem_append.1 (D.mem_iff.1 q) with j|j
  ·exact .inl (Zgc.2 ⟨x,j,u⟩)
  ·exact .inr ((h.mem y).1 ⟨x,j,u⟩)
 ·rintro(j|j)
  ·obtain⟨x,q,u⟩:=Zgc.1 j;exact⟨x,D.mem_iff.2 (List.mem_append_left _ q),u⟩
  ·obtain⟨x,q,u⟩:=(h.mem y).2 j;exact⟨x,D.mem_iff.2 (List.mem_append_right _ q),u⟩
def ZpZ(A:Option Addr)(c:Nat)(ts:List (Rw×Sl))(hn:ts.length<=10000000)(B:Nat)(w:World)(h:Zc1 w B A ts):
 Calls prog 314 #[.slice A ts.length c] w λe w'=>∃v,e=.returned v/\w'.ownsRow w.heap.size 316 4 v ts.length (ts.flatMap rV)/\Below w.heap.size w w':=by
 obtain⟨W,hi,L,J,I⟩:=info_parts ZjZ;cases A with
 |none=>
  have h0:ts=[]:=by
   rcases Nat.eq_zero_or_pos ts.length with q|q
   ·exact List.eq_nil_of_length_eq_zero q
   ·obtain⟨O,D,_⟩:=h.1.2 q;cases D
  subst h0;have:=AnyE.slices_Clone_nil laysClone 0 c w;change Calls prog 314 _ _ _ at this
  refine this.mono ?_;rintro e w' ⟨rfl,rfl⟩;exact⟨_,rfl,World.ownsRow_nil _ _ _ _,Below.refl _ _⟩
 |some O=>
  obtain⟨U,y,V⟩:=O;obtain rfl:V=none:=h.2 _ rfl;have Y:=Zf2 rV ZeC ts;have N:∀j u,(ts.flatMap rV)[j]?=some u->w.cell? ⟨U,y+j,none⟩=some u:=λj u C=>by
   have Z:0<ts.length:=by
    rcases Nat.eq_zero_or_pos ts.length with q|q
    ·rw[List.getElem?_eq_none (by omega)] at C;cases C
    ·exact q
   obtain⟨O,D,_,N⟩:=h.1.2 Z;injection D with D
   subst D;have:=N j u C
   rwa [addr_eq rfl] at this
  have:=AnyE.slices_Clone laysClone W _ 4 48 hi L J I rfl (by decide) sizeOf316 U y ts.length c (ts.flatMap rV) w Y (by unfold maxLen;omega) (by omega) N (λu C=>by
   obtain⟨x,_,X⟩:=List.mem_flatMap.1 C;exact ZoF x u X)
  change Calls prog 314 _ _ _ at this
  refine this.mono ?_;rintro e w' ⟨v,rfl,q,_,h3⟩;exact⟨v,rfl,q,h3⟩
section
variable {P:Program}
theorem ZlR(w:World)(base:Nat)(t ty e:TypeId)(i:TypeInfo)(z:Value)(size bytes:Nat)(ht:P.underlying t=some (.slice e))(hi:P.info? e=some i)(hz:i.zero=some z)(J:i.size=size)(Y:i.bytes=bytes)(ae:z.cells.size=size)(ai:0<size)
 (v:Value) (n:Nat) (xs:List Value) (I:w.ownsRow base e size v n xs) (V:Addr) (m c:Nat) (q:List Value) (W:q.length=m*size) (y:∀j u,q[j]?=some u->w.cell? (V.add j)=some u) (h1:∀u∈q,u.oneCell'=true)
 (Z:n+m<=maxLen) (C:(n+m)*bytes<=140737488355328) (O:base<=w.heap.size):
 ∃U w',(Builtin.append_ #[t,t] ty #[v,.slice (some V) m c]).run P w=.ok U w'/\w'.ownsRow base e size U (n+m) (xs++q)/\w.grownBy w' v.ownBlock/\(U.ownBlock=v.ownBlock\/U.ownBlock=some w.heap.size):=by
 obtain⟨U,w',hr,h2,h3,h4⟩:=run_append_own (P:=P) w base t ty e i z size bytes ht hi hz J Y ae ai v n xs I V m c q W y h1 Z C O;refine⟨U,w',hr,h2,h3,?_⟩;subst J;subst Y;have an:n+m<=9223372036854775807:=by unfold maxLen at Z;omega
 rcases I.2 with⟨rfl,rfl⟩|⟨g,cap,cur,rfl,au,hg,am,aq,aj,ah⟩
 ·by_cases hm:m=0
  ·exact .inl (by rw[h4.2 ⟨rfl,hm⟩])
  ·have hx:xs=[]:=List.eq_nil_of_length_eq_zero (by simpa using I.1);have D:=run_append_nil (P:=P) w t ty e i z ht hi hz V m c q W y (by omega) (by omega) (by have hb:=C;simp only[Nat.zero_add] at hb;omega);rw[hr] at D;injection D with hv _
   exact .inr (by rw[hv];rfl)
 ·by_cases L:n+m<=cap
  ·have X:n*i.size+q.length<=cur.size:=by rw[W,aj,<-Nat.add_mul];exact Nat.mul_le_mul_right _ L
   have D:=run_append_room (P:=P) w t ty e i ht hi g n cap cur hg V m c q W y h1 L X;rw[hr] at D;injection D with hv _
   exact .inl (by rw[hv];rfl)
  ·have N:∀j u,xs[j]?=some u->w.cell? ((⟨g,0,none⟩:Addr).add j)=some u:=I.cells (g:=g) rfl;have D:=run_append_grow (P:=P) w t ty e i z ht hi hz ⟨g,0,none⟩ n cap xs I.1 N V m c q W y (by omega) (by omega) (growslice_fits (by omega) C);rw[hr] at D;injection D with hv _
   exact .inr (by rw[hv];rfl)
end
def W3(w:World)(a b:Value):World:=((w.alloc (.cells #[a] 214)).alloc (.cells #[b] 214)).alloc (.cells #[.slice none 0 0] 214)
def Zkq(w:World)(a b:Value):(W3 w a b).heap.size=w.heap.size+3:=by simp[W3]
def ZlW{w W:World}{a b:Value}(h:Below (w.heap.size+3) (W3 w a b) W):Below w.heap.size w W:=
 (((((Below.refl _ w).alloc NL _).alloc (by simp) _).alloc (by simp;omega) _).trans (by unfold W3 at h;exact h.mono (by omega)))
def Zvt{w W:World}{a b:Value}(h:Below (w.heap.size+3) (W3 w a b) W):W.cell? ⟨w.heap.size,0,none⟩=some a/\W.cell? ⟨w.heap.size+1,0,none⟩=some b/\W.cell? ⟨w.heap.size+2,0,none⟩=some (.slice none 0 0)/\W.frozen? ⟨w.heap.size+2,0,none⟩=false/\W.heap[w.heap.size+2]?=some (.cells #[.slice none 0 0] 214 (0,0))/\w.heap.size+2<W.heap.size:=by
 have hs:=h.size;rw[Zkq] at hs;have u:Below ((w.alloc (.cells #[a] 214)).alloc (.cells #[b] 214)).heap.size ((w.alloc (.cells #[a] 214)).alloc (.cells #[b] 214)) W:=Ze (by unfold W3 at h;simpa using h);obtain⟨b1,_,_⟩:=bx u;obtain⟨C,_,_⟩:=bx (Ze u);have j:Below (W3 w a b).heap.size (W3 w a b) W:=by rw[Zkq];exact h
 unfold W3 at j;obtain⟨y,c2,_⟩:=bx j;have q:=Zy (heap_alloc_new ((w.alloc (.cells #[a] 214)).alloc (.cells #[b] 214)) (.cells #[.slice none 0 0] 214)) j;simp only[World.size_alloc] at b1 y c2 q;exact⟨C 0,b1 0,y 0,c2 0,q,by omega⟩
def RowC(W:World)(j:Addr)(k:Nat)(x:Rw×Sl):Prop:=W.cell? (j.add (k*4))=some (.int .i64 (x.1.1:Int))/\W.cell? ⟨(j.add (k*4)).block,(j.add (k*4)).off+1,none⟩=some (.int .i64 (x.1.2.1:Int))/\W.cell? ⟨(j.add (k*4)).block,(j.add (k*4)).off+2,none⟩=some (.int .i32 x.1.2.2.1)/\W.cell? ⟨(j.add (k*4)).block,(j.add (k*4)).off+3,none⟩=some (.slice x.2.1 x.2.2.1 x.2.2.2)
def RowC.step{W q:World}{u:Addr}{k:Nat}{x:Rw×Sl}(h:RowC W u k x)(hb:Below W.heap.size W q):RowC q u k x:=by
 obtain⟨I,D,C,y⟩:=h;have j:∀{a:Addr} {v:Value},W.cell? a=some v->q.cell? a=some v:=λ{a v} e=>(hb.cell (World.block_lt_of_cell? _ _ e)).trans e;exact⟨j I,j D,j C,j y⟩
def TbR.rowC{w:World}{B:Nat}{A:Option Addr}{rs:List (Rw×Sl)}(h:TbR w B A rs){k:Nat}{x:Rw×Sl}(q:rs[k]?=some x):∃j,A=some j/\RowC w j k x/\Za3 x.1/\ZI w B x:=by
 obtain⟨j,L,_,J,I,D,C,y,u,_⟩:=h.row q;exact⟨j,L,⟨J,I,D,C⟩,y,u⟩
def OvW(base:Nat)(q:World)(j:Value)(ts ps:List (Rw×Sl))(wr:World):Prop:=wr.ownsRow base 316 4 j (ts++ps).length ((ts++ps).flatMap rV)/\(∀x∈ps,ZI wr wr.heap.size x)/\Below base q wr/\base<=wr.heap.size
def OvW.step{base:Nat}{q:World}{j:Value}{ts ps:List (Rw×Sl)}{wr w':World}(h:OvW base q j ts ps wr)(hb:Below wr.heap.size wr w'):OvW base q j ts ps w':=by
 obtain⟨I,D,C,y⟩:=h;have:=hb.size;exact⟨ZB I hb,λx u=>((D x u).below hb).more hb.size,C.trans (hb.mono y),by omega⟩
def OvW.alloc{base:Nat}{q:World}{j:Value}{ts ps:List (Rw×Sl)}{wr:World}(h:OvW base q j ts ps wr)(o:Obj):OvW base q j ts ps (wr.alloc o):=h.step ((Below.refl _ _).alloc NL o)
def R8(W:World)(B8:Nat)(x:Rw×Sl):Prop:=W.heap[B8]?=some (.cells #[.int .i64 (x.1.1:Int),.int .i64 (x.1.2.1:Int),.int .i32 x.1.2.2.1,.slice x.2.1 x.2.2.1 x.2.2.2] 316 (0,0))
def R8.cells{W:World}{B8:Nat}{x:Rw×Sl}(h:R8 W B8 x):W.cell? ⟨B8,0,none⟩=some (.int .i64 (x.1.1:Int))/\W.cell? ⟨B8,1,none⟩=some (.int .i64 (x.1.2.1:Int))/\W.cell? ⟨B8,2,none⟩=some (.int .i32 x.1.2.2.1)/\W.cell? ⟨B8,3,none⟩=some (.slice x.2.1 x.2.2.1 x.2.2.2):=by
 refine⟨?_,?_,?_,?_⟩<;>(rw[cell_of_row _ B8 _ _ _ _ h];rfl)
def Ends(ts:List (Rw×Sl))(pt cur:Nat):Prop:=pt<=ts.length/\∀j x,j<pt->ts[j]?=some x->x.1.1+x.1.2.1<=cur
def OuRel(base:Nat)(D:World)(ts os:List (Rw×Sl))(C i k:Value)(wr:World):Prop:=∃(u pt q:Nat) (ps:List (Rw×Sl)),u<=os.length/\k=.int .i64 u/\i=.int .i64 pt/\Ends ts pt q/\(∀j y,u<=j->os[j]?=some y->q<=y.1.1)/\ZaP ts (λy=>y∈Zw (os.take u)) ps q/\ps.length<=q/\q<=1048576/\OvW base D C ts ps wr
def MiRel(base:Nat)(C:World)(ts os:List (Rw×Sl))(u:Nat)(j:Rw×Sl)(B8:Nat)(q i f:Value)(wr:World):Prop:=∃(cur pt:Nat) (ps:List (Rw×Sl)),f=.int .i64 cur/\i=.int .i64 pt/\j.1.1<=cur/\cur<=j.1.1+j.1.2.1/\Ends ts pt cur/\ZaP ts (λy=>y∈Zw (os.take u)\/(y∈prs j.1/\y.1<cur)) ps cur/\ps.length<=cur/\OvW base C q ts ps wr/\R8 wr B8 j/\some B8≠q.ownBlock
def InRel(base:Nat)(u:World)(ts ps:List (Rw×Sl))(j:Rw×Sl)(B8 cur:Nat)(q i:Value)(wr:World):Prop:=∃pt:Nat,i=.int .i64 pt/\Ends ts pt cur/\OvW base u q ts ps wr/\R8 wr B8 j
def TbR.fr_mono{w:World}{B:Nat}{A:Option Addr}{rs:List (Rw×Sl)}(h:TbR w B A rs){a b:Nat}{x y:Rw×Sl}(C:rs[a]?=some x)(u:rs[b]?=some y)(j:a<b):x.1.1+x.1.2.1<=y.1.1:=by
 have q:=h.2.2.1;rw[List.pairwise_map,List.pairwise_iff_getElem] at q;obtain⟨D,rfl⟩:=List.getElem?_eq_some_iff.1 C;obtain⟨hb,rfl⟩:=List.getElem?_eq_some_iff.1 u;exact q a b D hb j
def Zo3{w:World}{B g:Nat}{x:Rw×Sl}(h:ZI w B x)(a:Value){q:TypeId}{y:Array Value}(j:w.heap[g]?=some (.cells y q (0,0)))(u:q≠21):ZI (w.setCell ⟨g,0,none⟩ a) B x:=
 h.keep λk _ ⟨cs,fr,hh⟩=>heap_set (by
  rintro rfl;rw[hh] at j;injection j with j;injection j with _ j _;exact u j.symm) a
def ZvY{w:World}{A:Option Addr}{rs:List (Rw×Sl)}{g base:Nat}(h:Zc1 w w.heap.size A rs)(L:∀q,A=some q->base<=q.block)(N:g<base)(a:Value):Zc1 (w.setCell ⟨g,0,none⟩ a) w.heap.size A rs:=by
 refine⟨⟨h.1.1,λh0=>?_⟩,h.2⟩;obtain⟨q,y,hb,D⟩:=h.1.2 h0;have J:=L q y;refine⟨q,y,hb,λj u C=>?_⟩;have I:(q.add j).block=q.block:=by unfold Addr.add;split<;>rfl
 rw[Zcv (by omega)];exact D j u C
def Zla(ts os:List (Rw×Sl))(w0:World)(e:Ending)(w':World):Prop:=∃A c rs,e=.returned (.agg #[.slice A rs.length c])/\rs.length<=c/\rs.length<=ts.length+1048576/\TbR w' w'.heap.size A rs/\Zw rs=ZeA (Zw ts) (Zw os)/\Below w0.heap.size w0 w'
def Zrd(At Ao:Option Addr)(ct co:Nat)(ts os:List (Rw×Sl))(cM:ts.length<=8388608)(cN:os.length<=8388608)(w:World)(ht:TbR w w.heap.size At ts)(ho:TbR w w.heap.size Ao os):
 Calls prog 277 #[.agg #[.slice At ts.length ct],.agg #[.slice Ao os.length co]] w (Zla ts os w):=by
 obtain⟨i0,hi,bu,bt,bs⟩:=info_parts ZjZ;generalize hP:Zla ts os w=P at*;obtain⟨W,hW⟩:∃W,W=W3 w (.slice At ts.length ct) (.slice Ao os.length co):=⟨_,rfl⟩
 have bM:=ZpZ At ct ts (by omega) w.heap.size W ((ht.below (ZlW (by rw[hW];exact Below.refl _ _))).1);have ab:∀wr,Below (w.heap.size+3) W wr->wr.cell? ⟨w.heap.size,0,none⟩=some (.slice At ts.length ct)/\wr.cell? ⟨w.heap.size+1,0,none⟩=some (.slice Ao os.length co)/\wr.cell? ⟨w.heap.size+2,0,none⟩=some (.slice none 0 0)/\wr.frozen? ⟨w.heap.size+2,0,none⟩=false/\wr.heap[w.heap.size+2]?=some (.cells #[.slice none 0 0] 214 (0,0))/\w.heap.size+2<wr.heap.size:=λwr h=>Zvt (by rw[<-hW];exact h);have ao:∀wr,Below (w.heap.size+3) W wr->Below w.heap.size w wr:=λwr h=>ZlW (by rw[<-hW];exact h);have cc:W.heap.size=w.heap.size+3:=by rw[hW,Zkq]
 have a4:∀w',w'=W->Calls prog 314 #[.slice At ts.length ct] w' λe w1=>∃v,e=.returned v/\OvW (w.heap.size+3) W v ts [] w1:=λw' h=>by
  subst h;refine bM.mono ?_;rintro e w1 ⟨v,rfl,O,N⟩;rw[cc] at O N;have:=N.size;exact⟨v,rfl,by simpa using O,by simp,N,by omega⟩
 unfold W3 at hW;have bL:=a4 _ hW.symm;clear bM a4 hW;go_enter func277,ntmps277
 go_wp2_with (go_at_call 314;refine bL.mono ?_;rintro e w1 ⟨v5,rfl,bz⟩;obtain⟨k0,k1,_,_,_,_⟩:=ab _ bz.2.2.1)
 go_loopw [5,6,17] (λv i k wr=>OuRel (w.heap.size+3) W ts os v i k wr) (λ_ _ k _=>os.length - (intOf k).toNat)
 case atStart=>exact⟨0,0,0,[],by omega,rfl,rfl,⟨by omega,λj x hj=>by omega⟩,λ_ _ _ _=>Nat.zero_le _,(ov_nil ts 0).more (λy _=>by simp[Zw]) NL,by simp,by omega,bz⟩
 case round=>
  obtain⟨kn,pt,lo,ps,cQ,rfl,rfl,hE,ax,L,aI,cP,hv⟩:=hrel;have b2:=hv.2.2.2;obtain⟨cJ,cH,cG,cF,cE,cD⟩:=ab _ hv.2.2.1;by_cases b6:kn<os.length
  ·obtain⟨C,ay⟩:∃x,os[kn]?=some x:=⟨_,List.getElem?_eq_getElem b6⟩
   obtain⟨cX,rfl,⟨q0,q1,q2,q3⟩,ac,_⟩:=(ho.below (ao _ hv.2.2.1)).rowC ay;have cA:C.1.1+C.1.2.1<=1048576:=ac.2.1;have cB:1<=C.1.2.1:=ac.1;have bc:=ax kn C NL ay;have bB:∀y,y∈Zw (os.take (kn+1))↔y∈Zw (os.take kn)\/y∈prs C.1:=λy=>by
    have:=Zpt os kn C ay;unfold Zcq at this;rw[show Zw (os.take (kn+1))=Zw (os.take kn)++prs C.1 from this,List.mem_append]
   have ch:=QQ bB;have cx:=QQ ax;have J:=QQ hv;have aA:=QQ L;have HE:=QQ hE;have bv:=λo=>hv.alloc o;have h8:R8 (wr.alloc (.cells #[.int .i64 (C.1.1:Int),.int .i64 (C.1.2.1:Int),.int .i32 C.1.2.2.1,.slice C.2.1 C.2.2.1 C.2.2.2] 316)) wr.heap.size C:=heap_alloc_new wr _;have ck:=QQ h8;have aw:=QQ (show some wr.heap.size≠u5.ownBlock from λe=>by have:=(hv.1.lt wr.heap.size e.symm).2;omega);have cj:=QQ bv;clear bB ax hv L hE h8 bv k0 k1;go_wp2_with fail
   generalize cV:wr.heap.size=B8 at*;go_loopw [5,6,9] (λv i f bZ=>MiRel (w.heap.size+3) W ts os kn C B8 v i f bZ) (λ_ _ f _=>C.1.1+C.1.2.1 - (intOf f).toNat)
   case atStart=>exact⟨C.1.1,pt,ps,rfl,rfl,Nat.le_refl _,by omega,⟨HE.1,λj x O N=>Nat.le_trans (HE.2 j x O N) bc⟩,aA.more (λy _=>⟨λh=>.inl h,λh=>h.elim id (λh=>by have:=(Zcm.1 h.1).1;omega)⟩) bc,by omega,cj _,ck,aw⟩
   case round=>
    clear bc aI;obtain⟨cur,pt,ps,rfl,rfl,az,bN,hE,L,aI,hv,h8,a1⟩:=hrel;have aw:=QQ a1;clear a1;obtain⟨z0,z1,z2,z3⟩:=h8.cells;have J:=QQ hv;have Y:=QQ h8;have HE:=QQ hE;have aA:=QQ L;clear hv h8 hE L;by_cases cv:cur<C.1.1+C.1.2.1
    ·have bf:(cur:Int)<(C.1.1:Int)+C.1.2.1:=by omega
     go_wp2_with (go_at_call 279;refine MR (ZdF _ _ _ _ (by assumption) _) λw4 I=>?_;have J:=QQ (J.step I);have Y:=QQ (show R8 w4 B8 C from Zy Y I);obtain⟨z0,z1,z2,z3⟩:=Y.cells;obtain⟨kt,_,_,_,_,_⟩:=ab _ J.2.2.1)
     go_loopw [6] (λi bY=>InRel (w.heap.size+3) W ts ps C B8 cur u5 i bY) (λi _=>ts.length - (intOf i).toNat)
     case atStart=>exact⟨pt,rfl,HE,J,Y⟩
     case round=>
      obtain⟨pt,rfl,hE,hv,h8⟩:=hrel;obtain⟨z0,z1,z2,z3⟩:=h8.cells;obtain⟨kt,_,_,_,_,_⟩:=ab _ hv.2.2.1;have L:=aA.out;have J:=QQ hv;have Y:=QQ h8;have aS:=QQ hE;by_cases b4:pt<ts.length
      ·obtain⟨y,hy⟩:∃y,ts[pt]?=some y:=⟨_,List.getElem?_eq_getElem b4⟩
       obtain⟨cg,cd,b1,aZ,_⟩:=(ht.below (ao _ hv.2.2.1)).rowC hy;subst cd;have cz:y.1.1+y.1.2.1<=1048576:=aZ.2.1;have cm:1<=y.1.2.1:=aZ.1;obtain⟨y0,y1,y2,y3⟩:=b1;have HY:=QQ (show RowC _ cg pt y from⟨y0,y1,y2,y3⟩);by_cases b7:y.1.1+y.1.2.1<=cur
       ·have bJ:(y.1.1:Int)+y.1.2.1<=(cur:Int):=by omega
        have aM:Ends ts (pt+1) cur:=⟨by omega,λj x O N=>by
         rcases Nat.lt_or_ge j pt with h3|h3
         ·exact hE.2 j x h3 N
         ·obtain rfl:j=pt:=by omega
          rw[hy] at N;injection N with N;subst N;exact b7⟩
        have bn:=QQ aM;clear hE hv h8 L aM;go_wp2_with (go_at_call 279;refine MR (ZdF _ _ _ _ (by assumption) _) λw4 I=>?_;have J:=QQ (J.step I);have Y:=QQ (show R8 w4 B8 C from Zy Y I);obtain⟨z0,z1,z2,z3⟩:=Y.cells;obtain⟨kt,_,_,_,_,_⟩:=ab _ J.2.2.1;have HY:=QQ (HY.step I);obtain⟨y0,y1,y2,y3⟩:=HY.out)
        refine⟨⟨pt+1,by simp,bn,J,Y⟩,by simp[intOf];omega⟩
       ·have bJ:¬(y.1.1:Int)+y.1.2.1<=(cur:Int):=by omega
        by_cases cR:y.1.1<=cur
        ·have bK:(y.1.1:Int)<=(cur:Int):=by omega
         obtain⟨mn,b5⟩:∃m:Nat,m=min (C.1.1+C.1.2.1) (y.1.1+y.1.2.1):=⟨_,rfl⟩
         have bI:min ((C.1.1:Int)+C.1.2.1) ((y.1.1:Int)+y.1.2.1)=(mn:Int):=by omega
         have cq:cur<mn/\mn<=C.1.1+C.1.2.1/\mn<=y.1.1+y.1.2.1:=by omega
         clear b5;have aM:Ends ts pt mn:=⟨hE.1,λj x O N=>Nat.le_trans (hE.2 j x O N) (by omega)⟩
         have aY:ZaP ts (λz=>z∈Zw (os.take kn)\/(z∈prs C.1/\z.1<mn)) ps mn:=L.more (λz hz=>by
          constructor
          ·rintro(h|⟨h,N⟩)
           ·exact .inl h
           ·exact .inr ⟨h,by omega⟩
          ·rintro(h|⟨h,N⟩)
           ·exact .inl h
           ·rcases Nat.lt_or_ge z.1 cur with h3|h3
            ·exact .inr ⟨h,h3⟩
            ·exfalso
             have:Zan (Zw ts) z.1=true:=hasT.2 ⟨y,List.mem_of_getElem? hy,by omega,by omega⟩;rw[hz] at this;cases this) (by omega)
         have bn:=QQ aM;have bQ:=QQ aY;clear hE hv h8 L aM aY;go_wp2_with (go_at_call 279;refine MR (ZdF _ _ _ _ (by assumption) _) λw4 I=>?_;have J:=QQ (J.step I);have Y:=QQ (show R8 w4 B8 C from Zy Y I);obtain⟨z0,z1,z2,z3⟩:=Y.cells;obtain⟨kt,_,_,_,_,_⟩:=ab _ J.2.2.1;have HY:=QQ (HY.step I);obtain⟨y0,y1,y2,y3⟩:=HY.out)
         refine⟨⟨mn,pt,ps,rfl,rfl,by omega,by omega,bn,bQ,by omega,J,Y,aw⟩,by simp[intOf];omega⟩
        ·have bK:¬(y.1.1:Int)<=(cur:Int):=by omega
         obtain⟨D,be⟩:∃D,D=min (C.1.1+C.1.2.1) y.1.1:=⟨_,rfl⟩
         have aj:cur<D:=by omega
         have ai:D<=C.1.1+C.1.2.1:=by omega
         have bI:min ((C.1.1:Int)+C.1.2.1) (y.1.1:Int)=(D:Int):=by omega
         have aK:∀c,cur<=c->c<D->Zan (Zw ts) c=false:=λc az bN=>by
          cases hb:Zan (Zw ts) c with
          |false=>rfl
          |true=>
           exfalso
           obtain⟨x,hx,g1,g2⟩:=hasT.1 hb;obtain⟨j,hj,rfl⟩:=List.getElem_of_mem hx;rcases Nat.lt_or_ge j pt with O|O
           ·have:=hE.2 j _ O (List.getElem?_eq_getElem hj);omega
           ·rcases Nat.lt_or_ge pt j with N|N
            ·have:=ht.fr_mono hy (List.getElem?_eq_getElem hj) N;omega
            ·obtain rfl:j=pt:=by omega
             rw[List.getElem?_eq_getElem hj] at hy;injection hy with hy;subst hy;omega
         have af:=λq=>L.part (q:=q) ac az aj ai aK;have aO:=QQ af;have an:∀(W':World),Below w.heap.size w W'->Calls prog 315 #[.agg #[.int .i64 (C.1.1:Int),.int .i64 (C.1.2.1:Int),.int .i32 C.1.2.2.1,.slice C.2.1 C.2.2.1 C.2.2.2],.int .i64 (cur:Int),.int .i64 (D:Int)] W' λe w'=>∃q:Sl,e=.returned (.agg #[.int .i64 (cur:Int),.int .i64 ((D - cur:Nat):Int),.int .i32 (ZC C.1 cur D).2.2.1,.slice q.1 q.2.1 q.2.2])/\ZI w' W'.heap.size (ZC C.1 cur D,q)/\Below W'.heap.size W' w':=λW' hB=>Zlc C cur D ac az aj ai W' (((ho.2.1 C (List.mem_of_getElem? ay)).2.below hB).more hB.size);have aI:(ts++ps).length<=9437184:=by rw[List.length_append];omega
         clear af aK L be;go_wp2_with (first|(go_at_call 279;refine MR (ZdF _ _ _ _ (by assumption) _) λw4 I=>?_;have J:=QQ (J.step I);have Y:=QQ (show R8 w4 B8 C from Zy Y I);obtain⟨z0,z1,z2,z3⟩:=Y.cells;obtain⟨kt,_,_,_,_,_⟩:=ab _ J.2.2.1;have HY:=QQ (HY.step I);obtain⟨y0,y1,y2,y3⟩:=HY.out)|(go_at_call 315;refine(an _ (ao _ J.2.2.1)).mono ?_;rintro e w6 ⟨U,rfl,aH,ap⟩;have J:=QQ (J.step ap);have Y:=QQ (show R8 w6 B8 C from Zy Y ap);have bm:=QQ (aH.more ap.size))|(at_builtin;obtain⟨v7,w7,ae,Z,aL,ah⟩:=ZlR (P:=prog) (w6.alloc (.cells #[.int .i64 (cur:Int),.int .i64 ((D - cur:Nat):Int),.int .i32 (ZC C.1 cur D).2.2.1,.slice U.1 U.2.1 U.2.2] 316)) (w.heap.size+3) 212 212 316 i0 _ 4 48 underlying212 hi bu bt bs rfl (by decide) _ (ts++ps).length _ ((J.alloc _).1) ⟨w6.heap.size,0,none⟩ 1 1 [.int .i64 (cur:Int),.int .i64 ((D - cur:Nat):Int),.int .i32 (ZC C.1 cur D).2.2.1,.slice U.1 U.2.1 U.2.2] rfl (Zhl w6 _ _ _ _ _) (by intro u hu;simp only[List.mem_cons,List.not_mem_nil,or_false] at hu;rcases hu with rfl|rfl|rfl|rfl<;>rfl) (by unfold maxLen;omega) (by omega) (by have:=J.2.2.2;simp;omega);refine Lib.wpList_append_run _ rfl _ _ _ _ rfl _ _ rfl rfl _ _ ae ?_;clear ae;have aP:=QQ Z;have X:=QQ aL;have aQ:=QQ ah;clear Z aL ah))
         have V:=J.alloc (.cells #[.int .i64 (cur:Int),.int .i64 ((D - cur:Nat):Int),.int .i32 (ZC C.1 cur D).2.2.1,.slice U.1 U.2.1 U.2.2] 316);have bo:=Zad V.2.2.1 V.1 X V.2.2.2 NL;have aG:∀x∈ps++[(ZC C.1 cur D,U)],ZI w7 w7.heap.size x:=λx hx=>by
          rcases List.mem_append.1 hx with O|O
          ·exact(ZcS (V.2.1 x O) V.1 (by decide) X NL).more X.size
          ·simp only[List.mem_singleton] at O;subst O;exact(ZcS ((bm.below ((Below.refl _ _).alloc NL _)).more (by simp)) V.1 (by decide) X NL).more X.size
         have bd:=(Array.getElem?_eq_some_iff.1 Y).1;have bh:=(Below.heap_alloc w6 (.cells #[.int .i64 (cur:Int),.int .i64 ((D - cur:Nat):Int),.int .i32 (ZC C.1 cur D).2.2.1,.slice U.1 U.2.1 U.2.2] 316) _ bd).trans Y.out;refine⟨⟨D,pt,ps++[(ZC C.1 cur D,U)],rfl,(by first|rfl|rw[aX]),by omega,by omega,⟨aS.1,λj x O N=>Nat.le_trans (aS.2 j x O N) (by omega)⟩,(aO U).more (λz _=>?_) NL,by rw[List.length_append,List.length_singleton];omega,⟨?_,aG,bo,by have:=X.size;have:=V.2.2.2;omega⟩,(X.block _ (by simp;omega) aw).trans bh,λe=>aQ.elim (λh=>aw (e.trans h)) (λh=>by rw[h] at e;injection e with e;simp at e;omega)⟩,by simp[intOf];omega⟩
         ·constructor
          ·rintro((h|⟨h,N⟩)|⟨h,N,h3⟩)
           ·exact .inl h
           ·exact .inr ⟨h,by omega⟩
           ·exact .inr ⟨h,h3⟩
          ·rintro(h|⟨h,N⟩)
           ·exact .inl (.inl h)
           ·rcases Nat.lt_or_ge z.1 cur with h3|h3
            ·exact .inl (.inr ⟨h,h3⟩)
            ·exact .inr ⟨h,h3,N⟩
         ·have:=aP.out;rw[<-List.append_assoc,List.length_append,List.flatMap_append];simpa[rV,slV,ZC] using this
      ·have aX:pt=ts.length:=by have:=hE.1;omega
       have cp:¬(pt:Int)<(ts.length:Int):=by omega
       obtain⟨D,be⟩:∃D,D=C.1.1+C.1.2.1:=⟨_,rfl⟩
       have aj:cur<D:=by omega
       have ai:D<=C.1.1+C.1.2.1:=by omega
       have cu:(C.1.1:Int)+C.1.2.1=(D:Int):=by omega
       have aK:∀c,cur<=c->c<D->Zan (Zw ts) c=false:=λc az bN=>by
        cases hb:Zan (Zw ts) c with
        |false=>rfl
        |true=>
         exfalso
         obtain⟨x,hx,g1,g2⟩:=hasT.1 hb;obtain⟨j,hj,rfl⟩:=List.getElem_of_mem hx;rcases Nat.lt_or_ge j pt with O|O
         ·have:=hE.2 j _ O (List.getElem?_eq_getElem hj);omega
         ·omega
       have af:=λq=>L.part (q:=q) ac az aj ai aK;have aO:=QQ af;have an:∀(W':World),Below w.heap.size w W'->Calls prog 315 #[.agg #[.int .i64 (C.1.1:Int),.int .i64 (C.1.2.1:Int),.int .i32 C.1.2.2.1,.slice C.2.1 C.2.2.1 C.2.2.2],.int .i64 (cur:Int),.int .i64 (D:Int)] W' λe w'=>∃q:Sl,e=.returned (.agg #[.int .i64 (cur:Int),.int .i64 ((D - cur:Nat):Int),.int .i32 (ZC C.1 cur D).2.2.1,.slice q.1 q.2.1 q.2.2])/\ZI w' W'.heap.size (ZC C.1 cur D,q)/\Below W'.heap.size W' w':=λW' hB=>Zlc C cur D ac az aj ai W' (((ho.2.1 C (List.mem_of_getElem? ay)).2.below hB).more hB.size);have aI:(ts++ps).length<=9437184:=by rw[List.length_append];omega
       clear af aK L be;go_wp2_with (first|(go_at_call 279;refine MR (ZdF _ _ _ _ (by assumption) _) λw4 I=>?_;have J:=QQ (J.step I);have Y:=QQ (show R8 w4 B8 C from Zy Y I);obtain⟨z0,z1,z2,z3⟩:=Y.cells;obtain⟨kt,_,_,_,_,_⟩:=ab _ J.2.2.1)|(go_at_call 315;refine(an _ (ao _ J.2.2.1)).mono ?_;rintro e w6 ⟨U,rfl,aH,ap⟩;have J:=QQ (J.step ap);have Y:=QQ (show R8 w6 B8 C from Zy Y ap);have bm:=QQ (aH.more ap.size))|(at_builtin;obtain⟨v7,w7,ae,Z,aL,ah⟩:=ZlR (P:=prog) (w6.alloc (.cells #[.int .i64 (cur:Int),.int .i64 ((D - cur:Nat):Int),.int .i32 (ZC C.1 cur D).2.2.1,.slice U.1 U.2.1 U.2.2] 316)) (w.heap.size+3) 212 212 316 i0 _ 4 48 underlying212 hi bu bt bs rfl (by decide) _ (ts++ps).length _ ((J.alloc _).1) ⟨w6.heap.size,0,none⟩ 1 1 [.int .i64 (cur:Int),.int .i64 ((D - cur:Nat):Int),.int .i32 (ZC C.1 cur D).2.2.1,.slice U.1 U.2.1 U.2.2] rfl (Zhl w6 _ _ _ _ _) (by intro u hu;simp only[List.mem_cons,List.not_mem_nil,or_false] at hu;rcases hu with rfl|rfl|rfl|rfl<;>rfl) (by unfold maxLen;omega) (by omega) (by have:=J.2.2.2;simp;omega);refine Lib.wpList_append_run _ rfl _ _ _ _ rfl _ _ rfl rfl _ _ ae ?_;clear ae;have aP:=QQ Z;have X:=QQ aL;have aQ:=QQ ah;clear Z aL ah))
       have V:=J.alloc (.cells #[.int .i64 (cur:Int),.int .i64 ((D - cur:Nat):Int),.int .i32 (ZC C.1 cur D).2.2.1,.slice U.1 U.2.1 U.2.2] 316);have bo:=Zad V.2.2.1 V.1 X V.2.2.2 NL;have aG:∀x∈ps++[(ZC C.1 cur D,U)],ZI w7 w7.heap.size x:=λx hx=>by
        rcases List.mem_append.1 hx with O|O
        ·exact(ZcS (V.2.1 x O) V.1 (by decide) X NL).more X.size
        ·simp only[List.mem_singleton] at O;subst O;exact(ZcS ((bm.below ((Below.refl _ _).alloc NL _)).more (by simp)) V.1 (by decide) X NL).more X.size
       have bd:=(Array.getElem?_eq_some_iff.1 Y).1;have bh:=(Below.heap_alloc w6 (.cells #[.int .i64 (cur:Int),.int .i64 ((D - cur:Nat):Int),.int .i32 (ZC C.1 cur D).2.2.1,.slice U.1 U.2.1 U.2.2] 316) _ bd).trans Y.out;refine⟨⟨D,pt,ps++[(ZC C.1 cur D,U)],rfl,(by first|rfl|rw[aX]),by omega,by omega,⟨aS.1,λj x O N=>Nat.le_trans (aS.2 j x O N) (by omega)⟩,(aO U).more (λz _=>?_) NL,by rw[List.length_append,List.length_singleton];omega,⟨?_,aG,bo,by have:=X.size;have:=V.2.2.2;omega⟩,(X.block _ (by simp;omega) aw).trans bh,λe=>aQ.elim (λh=>aw (e.trans h)) (λh=>by rw[h] at e;injection e with e;simp at e;omega)⟩,by simp[intOf];omega⟩
       ·constructor
        ·rintro((h|⟨h,N⟩)|⟨h,N,h3⟩)
         ·exact .inl h
         ·exact .inr ⟨h,by omega⟩
         ·exact .inr ⟨h,h3⟩
        ·rintro(h|⟨h,N⟩)
         ·exact .inl (.inl h)
         ·rcases Nat.lt_or_ge z.1 cur with h3|h3
          ·exact .inl (.inr ⟨h,h3⟩)
          ·exact .inr ⟨h,h3,N⟩
       ·have:=aP.out;rw[<-List.append_assoc,List.length_append,List.flatMap_append];simpa[rV,slV,ZC] using this
    ·have b8:cur=C.1.1+C.1.2.1:=by omega
     have bf:¬(cur:Int)<(C.1.1:Int)+C.1.2.1:=by omega
     go_wp2_with (go_at_call 279;refine MR (ZdF _ _ _ _ (by assumption) _) λw4 I=>?_;have J:=QQ (J.step I);have Y:=QQ (show R8 w4 B8 C from Zy Y I);obtain⟨z0,z1,z2,z3⟩:=Y.cells;obtain⟨kt,_,_,_,_,_⟩:=ab _ J.2.2.1)
     refine⟨⟨kn+1,pt,cur,ps,by omega,by simp,rfl,HE,λj y O N=>by have:=ho.fr_mono ay N (by omega);omega,aA.more (λz _=>?_) NL,aI,by omega,J⟩,by simp[intOf];omega⟩;rw[ch.out];constructor
     ·rintro(h|⟨h,N⟩)
      ·exact .inl h
      ·exact .inr h
     ·rintro(h|h)
      ·exact .inl h
      ·exact .inr ⟨h,by have:=(Zcm.1 h).2.1;omega⟩
  ·obtain rfl:kn=os.length:=by omega
   rw[List.take_length] at L;obtain⟨A5,c5,bw,b9,_⟩:=Reads.of_own hv.1;obtain⟨nn,bb⟩:∃n,n=(ts++ps).length:=⟨_,rfl⟩
   rw[<-bb] at bw;subst bw;have ca:=ZkE (w.heap.size+3) (.slice A5 nn c5) (ts++ps) wr hv.1 b2 (by rw[List.length_append];omega);have bP:=QQ (show∀ad,A5=some ad->w.heap.size+3<=ad.block from λad h=>(hv.1.lt ad.block (by rw[h];rfl)).1);have J:=QQ hv;have aA:=QQ L;have bk:=QQ bb;clear hv L hE ax bb;go_wp2_with (go_at_call 313;refine ca.mono ?_;rintro e w9 ⟨rfl,A6,c6,rs',b3,cT,aJ,aF,bF,cb,a3⟩;have aT:=J.2.2.1.trans cb;obtain⟨_,_,c2,f2,n2,g2⟩:=ab _ aT;injection b3 with hA6 hx6 hcc6;clear hx6;subst hA6;subst hcc6;have au:=QQ aJ;have bj:=QQ aF;have ci:=QQ bF;clear aJ aF bF)
   obtain⟨bE,bG⟩:=ov_end ht.2.2 ho.2.2 aA au bj.out;have a2:rs'.length=nn:=au.length_eq.trans bk.symm;have cO:nn=ts.length+ps.length:=bk.trans List.length_append;have bD:∀x∈rs',ZI w9 w9.heap.size x:=λx hx=>by
    rcases List.mem_append.1 (au.mem_iff.1 hx) with O|O
    ·exact((ht.2.1 x O).2.below (ao _ aT)).more (ao _ aT).size
    ·exact(ZcS (J.2.1 x O) J.1 (by decide) a3 NL).more a3.size
   have hf:P (.returned (.agg #[.slice A5 nn c5])) (w9.setCell ⟨w.heap.size+2,0,none⟩ (.slice A5 nn c5)):=by
    rw[<-hP];refine⟨A5,c5,rs',by rw[a2],by rw[a2,bk.out];exact b9,by omega,⟨?_,λx hx=>⟨bE.2 _ (List.mem_map_of_mem hx),?_⟩,bE⟩,bG,(ao _ aT).setCell (by simp) _⟩
    ·rw[show(w9.setCell ⟨w.heap.size+2,0,none⟩ (.slice A5 nn c5)).heap.size=w9.heap.size by simp];exact ZvY ci bP (by omega) _
    ·rw[show(w9.setCell ⟨w.heap.size+2,0,none⟩ (.slice A5 nn c5)).heap.size=w9.heap.size by simp];exact Zo3 (bD x hx) _ n2 (by decide)
   refine bodyPost_ret (v:=.agg #[.slice A5 nn c5]) (by simp[results,results277,go_sem,c2]) rfl ?_;exact hf
