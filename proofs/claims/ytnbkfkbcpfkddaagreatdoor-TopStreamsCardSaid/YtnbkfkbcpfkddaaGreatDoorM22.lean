/- Lemmas for a statement on the tops; conditions: as each says. -/
import Derived.Test.YtnbkfkbcpfkddaaGreatDoorM21
set_option linter.unusedVariables false
set_option linter.unusedSimpArgs false
set_option maxRecDepth 100000
set_option maxHeartbeats 4000000
namespace Go.Proofs.YtnbkfkbcpfkddaaGreatDoor
open Go Go.RowKit
def TbR (w:World)(B:Nat)(A:Option Addr)(rs:List (Rw×Sl)):Prop:=Zbz w B A rs∧(∀x∈rs,Zah x.1∧ZA w B x)∧Zcw (rs.map (·.1))
theorem TbR.below {w w':World} {B:Nat} {A:Option Addr} {rs:List (Rw×Sl)} (h:TbR w B A rs)(hb:Below B w w'):TbR w' B A rs:=by
 obtain⟨⟨h1,h2⟩,h3,h4⟩:=h;exact⟨⟨h1.below hb,h2⟩,fun x hx=>⟨(h3 x hx).1,(h3 x hx).2.below hb⟩,h4⟩
theorem TbR.more {w:World} {B B':Nat} {A:Option Addr} {rs:List (Rw×Sl)} (h:TbR w B A rs)(hb:B≤B'):TbR w B' A rs:=by
 obtain⟨⟨h1,h2⟩,h3,h4⟩:=h;exact⟨⟨h1.more hb,h2⟩,fun x hx=>⟨(h3 x hx).1,(h3 x hx).2.more hb⟩,h4⟩
theorem ZdB (ad:Addr)(k i:Nat)(hi:i≠0):ad.add (k+i)=⟨(ad.add k).block,(ad.add k).off+i,none⟩:=by
 rw [←ZfR];show(if i=0 then _ else _)=_
 rw [if_neg hi]
theorem TbR.row {w:World} {B:Nat} {A:Option Addr} {rs:List (Rw×Sl)} (h:TbR w B A rs){k:Nat} {x:Rw×Sl} (hk:rs[k]? =some x):
 ∃ad,A=some ad∧ad.block<B∧w.cell? (ad.add (k*4))=some (.int .i64 (x.1.1:Int))∧w.cell? ⟨(ad.add (k*4)).block,(ad.add (k*4)).off+1,none⟩=some (.int .i64 (x.1.2.1:Int))∧
  w.cell? ⟨(ad.add (k*4)).block,(ad.add (k*4)).off+2,none⟩=some (.int .i32 x.1.2.2.1)∧w.cell? ⟨(ad.add (k*4)).block,(ad.add (k*4)).off+3,none⟩=some (.slice x.2.1 x.2.2.1 x.2.2.2)∧Zah x.1∧ZA w B x∧x∈rs:=by
 obtain⟨⟨⟨_,h1⟩,_⟩,h3,_⟩:=h;have hlt:k<rs.length:=by
  rcases Nat.lt_or_ge k rs.length with h|h
  · exact h
  · rw [List.getElem?_eq_none h] at hk;cases hk
 obtain⟨ad,hA,hb,hc⟩:=h1 (by omega);have hx:=List.mem_of_getElem? hk;have hg:∀i u,(rV x)[i]? =some u→i<4→w.cell? (ad.add (k*4+i))=some u:=fun i u hu hi=>hc _ _ ((ZeK rV ZcM rs k i x hk hi).trans hu);have g0:=hg 0 _ rfl (by omega);have g1:=hg 1 _ rfl (by omega);have g2:=hg 2 _ rfl (by omega);have g3:=hg 3 _ rfl (by omega);rw [Nat.add_zero] at g0;rw [ZdB _ _ _ (by omega)] at g1 g2 g3;exact⟨ad,hA,hb,g0,g1,g2,g3,(h3 x hx).1,(h3 x hx).2,hx⟩
def szR (rs:List (Rw×Sl)):Nat:=(rs.map fun x:Rw×Sl=>x.1.2.1).sum
theorem ZqC (rs:List (Rw×Sl))(k:Nat)(x:Rw×Sl)(h:rs[k]? =some x):szR (rs.take (k+1))=szR (rs.take k)+x.1.2.1:=by
 unfold szR;rw [List.take_add_one,h];simp
theorem Zll:∀(rs:List (Rw×Sl)) (lo:Nat),lo≤1048576→(∀x∈rs,lo≤x.1.1)→(rs.map (·.1)).Pairwise (fun a b=>a.1+a.2.1≤b.1)→(∀x∈rs,x.1.1+x.1.2.1≤1048576)→lo+szR rs≤1048576
 |[],lo,h,_,_,_=>by simpa [szR] using h
 |x::rs,lo,h,h1,h2,h3=>by
  rw [List.map_cons,List.pairwise_cons] at h2;have h4:=h3 x (by simp);have h5:=h1 x (by simp);have:=Zll rs (x.1.1+x.1.2.1) h4 (fun y hy=>h2.1 _ (List.mem_map_of_mem hy)) h2.2 (fun y hy=>h3 y (by simp [hy]));have e:szR (x::rs)=x.1.2.1+szR rs:=by simp [szR]
  omega
theorem TbR.total {w:World} {B:Nat} {A:Option Addr} {rs:List (Rw×Sl)} (h:TbR w B A rs):szR rs≤1048576:=by
 have:=Zll rs 0 (by omega) (fun _ _=>Nat.zero_le _) h.2.2.1 (fun x hx=>(h.2.1 x hx).1.2.1);omega
theorem Zlm (rs:List (Rw×Sl))(k:Nat):szR (rs.take k)≤szR rs:=by
 unfold szR
 conv=>rhs;rw [←List.take_append_drop k rs]
 rw [List.map_append,List.sum_append];omega
theorem Zd7 (rs:List (Rw×Sl)):((rs.map (·.1)).flatMap prs).length=szR rs:=by
 unfold szR;induction rs with
 |nil=>rfl
 |cons x rs ih=>rw [List.map_cons,List.flatMap_cons,List.length_append,Ze5,ih];simp
def SzRel (rs:List (Rw×Sl))(w0:World)(v i:Value)(wr:World):Prop:=∃k:Nat,k≤rs.length∧i= .int .i64 k∧v= .int .i64 (szR (rs.take k):Nat)∧Below w0.heap.size w0 wr
theorem Zid (A:Option Addr)(c:Nat)(rs:List (Rw×Sl))(hn:rs.length≤35184372089000)(w:World)(h:TbR w w.heap.size A rs):
 Calls Tryz.prog 262 #[.agg #[.slice A rs.length c]] w fun e w'=>e= .returned (.int .i64 (szR rs:Nat))∧Below w.heap.size w w':=by
 have htot:=h.total;go_enter Tryz.func262,Tryz.ntmps262
 go_wp2_with fail
 go_loopw [3,9] (fun v i wr=>SzRel rs w v i wr) (fun _ i _=>rs.length - (intOf i).toNat)
 case atStart=>exact⟨0,by omega,rfl,rfl,(Below.refl _ w).alloc (Nat.le_refl _) _⟩
 case round=>
  obtain⟨k,hk,rfl,rfl,hb⟩:=hrel;by_cases hlt:k<rs.length
  · obtain⟨x,hx⟩:∃x,rs[k]? =some x:=⟨_,List.getElem?_eq_getElem hlt⟩
    obtain⟨ad,rfl,hadb,y0,y1,y2,y3,hok,_,_⟩:=(h.below hb).row hx;have hz:=hb.size;have hs:=ZqC rs k x hx;have hle:=Zlm rs (k+1);have e1:IntKind.i64.wrap ((szR (rs.take k):Nat)+(x.1.2.1:Int))=((szR (rs.take (k+1)):Nat):Int):=by rw [hs,IntWalk.i64_in _ (by omega)];simp
    clear hs;generalize hq:szR (rs.take (k+1))=s' at e1;have Hq:=Lib.hid hq;clear hq hle;generalize szR (rs.take k)=s at*;go_wp2_with fail
    go_roundw
    case rel=>exact⟨k+1,by omega,by simp,by rw [Hq.out],hb.alloc (by omega) _⟩
    case measure=>simp [intOf];omega
  · obtain rfl:k=rs.length:=by omega
    rw [List.take_length];go_wp2_with fail
    go_ret
    exact⟨rfl,hb⟩
def Zb4 (rs:List Rw)(p:Int):Option Nat:=rs.findSome? fun r=>lst r p
theorem ZpM (rs:List Rw)(p:Int):Zb4 rs p=((rs.flatMap prs).find? fun x=>x.2==p).map (·.1):=by
 unfold Zb4 lst;rw [List.find?_flatMap];induction rs with
 |nil=>rfl
 |cons r rs ih=>
  rw [List.findSome?_cons,List.findSome?_cons];cases(prs r).find? fun x=>x.2==p with
  |none=>simpa using ih
  |some x=>rfl
def RvRel (rs:List (Rw×Sl))(p:Int)(w0:World)(i:Value)(wr:World):Prop:=∃k:Nat,k≤rs.length∧i= .int .i64 k∧Zb4 (rs.map (·.1)) p=Zb4 ((rs.drop k).map (·.1)) p∧Below w0.heap.size w0 wr
theorem Zmx (A:Option Addr)(c:Nat)(rs:List (Rw×Sl))(p:Int)(hp: -2147483648≤p∧p<2147483648)(hn:rs.length≤35184372089000)(w:World)(h:TbR w w.heap.size A rs):
 Calls Tryz.prog 355 #[.agg #[.slice A rs.length c],.int .i32 p] w fun e w'=>e= .returned (.tuple #[.int .i64 ((Zb4 (rs.map (·.1)) p).getD 0:Nat),.bool (Zb4 (rs.map (·.1)) p).isSome])∧Below w.heap.size w w':=by
 go_enter Tryz.func355,Tryz.ntmps355
 go_wp2_with fail
 go_loopw [13] (fun i wr=>RvRel rs p w i wr) (fun i _=>rs.length - (intOf i).toNat)
 case atStart=>exact⟨0,by omega,rfl,by simp,(Below.refl _ w).alloc (Nat.le_refl _) _⟩
 case round=>
  obtain⟨k,hk,rfl,hrv,hb⟩:=hrel;have hz:=hb.size;by_cases hlt:k<rs.length
  · obtain⟨x,hx⟩:∃x,rs[k]? =some x:=⟨_,List.getElem?_eq_getElem hlt⟩
    obtain⟨ad,rfl,hadb,y0,y1,y2,y3,hok,hsg,_⟩:=(h.below hb).row hx;have hdk:rs.drop k=x::rs.drop (k+1):=by
     obtain⟨h1,h2⟩:=List.getElem?_eq_some_iff.1 hx;rw [List.drop_eq_getElem_cons h1,h2]
    rw [hdk,List.map_cons] at hrv;unfold Zb4 at hrv;rw [List.findSome?_cons] at hrv;have hcd:=fun(o:Obj)=>ZlO x p hp hok (wr.alloc o) (((hsg.more hz).below ((Below.refl _ _).alloc (Nat.le_refl _) o)).more (by simp));unfold Zee rV slV at hcd;cases hl:lst x.1 p with
    |none=>
     rw [hl] at hrv hcd;have Hrv:=Lib.hid hrv;clear hrv hdk hl;go_wp2_with (go_at_call 375;refine(hcd _).mono ?_;rintro e w1 ⟨z,rfl,_,hb1⟩)
     go_roundw
     case rel=>exact⟨k+1,by omega,by simp,Hrv.out,hb.trans ((Zh hb1).mono (by omega))⟩
     case measure=>simp [intOf];omega
    |some v=>
     rw [hl] at hrv hcd;have Hrv:=Lib.hid (show Zb4 (rs.map (·.1)) p=some v from hrv);clear hrv hdk hl;go_wp2_with (go_at_call 375;refine(hcd _).mono ?_;rintro e w1 ⟨z,rfl,hz2,hb1⟩;obtain rfl:=hz2 v rfl)
     go_ret2
     rw [Hrv.out];exact⟨rfl,hb.trans ((Zh hb1).mono (by omega))⟩
  · obtain rfl:k=rs.length:=by omega
    rw [List.drop_length] at hrv;have Hrv:=Lib.hid (show Zb4 (rs.map (·.1)) p=none from hrv);clear hrv;go_wp2_with fail
    go_ret2
    rw [Hrv.out];exact⟨rfl,hb⟩
theorem Zpu:(Tryz.prog.info? 264).map (fun i=>(i.zero,i.size,i.bytes))=some (some (.agg #[.int .i64 0,.int .i32 0]),2,16):=by kernel_rfl
def prV (x:Pr):List Value:=[.int .i64 (x.1:Int),.int .i32 x.2]
def Za3 (rs:List (Rw×Sl))(k:Nat):List Pr:=((rs.take k).map (·.1)).flatMap prs
theorem Zq5 (rs:List (Rw×Sl))(k:Nat):(Za3 rs k).length=szR (rs.take k):=Zd7 _
theorem Zls (rs:List (Rw×Sl))(k:Nat)(x:Rw×Sl)(h:rs[k]? =some x):Za3 rs (k+1)=Za3 rs k++prs x.1:=by
 unfold Za3;rw [List.take_add_one,h];simp
theorem ZpG (r:Rw)(j:Nat)(h:j<r.2.1):(prs r).take (j+1)=(prs r).take j++[(r.1+j,ZR r j)]:=by
 have:(prs r)[j]? =some (r.1+j,ZR r j):=by
  unfold prs;rw [List.getElem?_map,List.getElem?_range h];rfl
 rw [List.take_add_one,this];rfl
def PaRel (rs:List (Rw×Sl))(w0:World)(v i:Value)(wr:World):Prop:=∃k:Nat,k≤rs.length∧i= .int .i64 k∧wr.ownsRow w0.heap.size 264 2 v (Za3 rs k).length ((Za3 rs k).flatMap prV)∧Below w0.heap.size w0 wr
def PiRel (L:List Pr)(x:Rw×Sl)(B5:Nat)(w0:World)(v c:Value)(wr:World):Prop:=∃j:Nat,j≤x.1.2.1∧c= .int .i64 ((x.1.1+j:Nat):Int)∧wr.ownsRow w0.heap.size 264 2 v (L++(prs x.1).take j).length ((L++(prs x.1).take j).flatMap prV)∧
 wr.heap[B5]? =some (.cells #[.int .i64 (x.1.1:Int),.int .i64 (x.1.2.1:Int),.int .i32 x.1.2.2.1,.slice x.2.1 x.2.2.1 x.2.2.2] 322 (0,0))∧Below w0.heap.size w0 wr
def ZfG (L:List Pr)(w0:World)(e:Ending)(w':World):Prop:=∃A c,e= .returned (.slice A L.length c)∧L.length≤c∧Reads w' w'.heap.size 2 A L.length (L.flatMap prV)∧Below w0.heap.size w0 w'
theorem ZqX (w:World)(a b:Value)(T:TypeId):∀j u,[a,b][j]? =some u→(w.alloc (.cells #[a,b] T)).cell? ((⟨w.heap.size,0,none⟩:Addr).add j)=some u:=by
 intro j u hu;rw [addr_eq rfl];show(w.alloc _).cell? ⟨w.heap.size,0+j,none⟩=_
 rw [Nat.zero_add,cell_of_row _ w.heap.size j _ T (0,0) (heap_alloc_new w _)];simpa using hu
def Zh6 (L:List Pr)(w0:World)(e:Ending)(w':World):Prop:=∃v,e= .returned v∧w'.ownsRow w0.heap.size 264 2 v L.length (L.flatMap prV)∧Below w0.heap.size w0 w'
theorem Zmi (A:Option Addr)(c:Nat)(rs:List (Rw×Sl))(hn:rs.length≤35184372089000)(w:World)(h:TbR w w.heap.size A rs):
 Calls Tryz.prog 206 #[.agg #[.slice A rs.length c]] w (Zh6 ((rs.map (·.1)).flatMap prs) w):=by
 have htot:=h.total;have hszs:=fun o=>Zid A c rs hn (w.alloc o) ((h.below ((Below.refl _ _).alloc (Nat.le_refl _) o)).more (by simp));obtain⟨i0,hi,iz0,iz1,iz2⟩:=info_parts Zpu;have hall:Za3 rs rs.length=(rs.map (·.1)).flatMap prs:=by unfold Za3;rw [List.take_length]
 generalize hP:Zh6 ((rs.map (·.1)).flatMap prs) w=P at*;go_enter Tryz.func206,Tryz.ntmps206
 go_wp2_with (first|(go_at_call 262;refine(hszs _).mono ?_;rintro e w1 ⟨rfl,hb1⟩;have HB1:=Zh hb1;have hz1:=Zb8 hb1;have q1:=Zq (heap_alloc_new w (.cells #[.slice A rs.length c] 205)) hb1;have q2:=cell_of_row _ _ 0 _ _ _ q1;simp at q2)|(at_make;refine wpList_make_own _ rfl _ _ 261 rfl w.heap.size 264 i0 (.agg #[.int .i64 0,.int .i32 0]) 2 Tryz.underlying261 hi iz0 iz1 .i64 .i64 _ (szR rs) rfl rfl rfl (by rw [iz2];omega) (by unfold maxLen;omega) (by omega) ?_;intro w3 hown hgrow;have hz3:=hgrow.size;have q3:=(hgrow.block w.heap.size (by omega) (by simp)).trans q1;have q4:=cell_of_row _ _ 0 _ _ _ q3;simp at q4;have HB3:=HB1.grown hgrow (by omega) (fun k hk=>by cases hk)))
 clear q1 q2 q3 q4 hszs hb1 hgrow;go_loopw [3,13] (fun v i wr=>PaRel rs w v i wr) (fun _ i _=>rs.length - (intOf i).toNat)
 case atStart=>exact⟨0,by omega,rfl,hown,HB3⟩
 case round=>
  obtain⟨k,hk,rfl,ho,hb⟩:=hrel;have hz:=hb.size;by_cases hlt:k<rs.length
  · obtain⟨x,hx⟩:∃x,rs[k]? =some x:=⟨_,List.getElem?_eq_getElem hlt⟩
    obtain⟨ad,rfl,hadb,y0,y1,y2,y3,hok,hsg,_⟩:=(h.below hb).row hx;have hsn:=Zls rs k x hx;have hlen:(Za3 rs k).length+x.1.2.1≤1048576:=by
     have:=congrArg List.length hsn;rw [List.length_append,Ze5,Zq5 rs (k+1)] at this;have:=Zlm rs (k+1);omega
    have Ho:=Lib.hid ho;have Hsn:=Lib.hid hsn;clear ho hsn;go_wp2_with fail
    clear hall;have hsgw:=(h.2.1 x (List.mem_of_getElem? hx)).2;have hend:=fun v W=>ZbO x.1.1 x.1.2.1 x.1.2.2.1 v hok.2.1 W;have ok1:=hok.1;have ok2:=hok.2.1;clear y0 y1 y2 y3;go_loopw [3,6] (fun v c2 wr2=>PiRel (Za3 rs k) x wr.heap.size w v c2 wr2) (fun _ c2 _=>x.1.1+x.1.2.1 - (intOf c2).toNat)
    case atStart=>exact⟨0,by omega,by simp,by simpa using Ho.out.alloc _,heap_alloc_new wr _,hb.alloc (by omega) _⟩
    case round=>
     obtain⟨j,hj,rfl,ho2,h5,hb2⟩:=hrel;have hz2:=hb2.size;have y0:=cell_of_row _ _ 0 _ _ _ h5;have y1:=cell_of_row _ _ 1 _ _ _ h5;have y2:=cell_of_row _ _ 2 _ _ _ h5;have y3:=cell_of_row _ _ 3 _ _ _ h5;simp at y0 y1 y2 y3;have Ho2:=Lib.hid ho2;have H5:=Lib.hid h5;have hl5:=(Array.getElem?_eq_some_iff.1 h5).1;by_cases hjn:j<x.1.2.1
     · have hln:(Za3 rs k++(prs x.1).take j).length=(Za3 rs k).length+j:=by rw [List.length_append,List.length_take,Ze5];omega
       have hsi:=fun W (hB:Below w.heap.size w W)=>ZfL x (x.1.1+j) hok ⟨by omega,by omega⟩ W ((hsgw.below hB).more hB.size);unfold rV slV at hsi;rw [show x.1.1+j - x.1.1=j by omega] at hsi;have Hln:=Lib.hid hln;have hnx:=ZpG x.1 j hjn;have Hnx:=Lib.hid hnx;generalize ZR x.1 j=sg at*;clear ho2 h5 hln hnx;go_wp2_with (first|(go_at_call 263;refine(hend _ _).mono ?_;rintro e w4 ⟨rfl,hb4⟩;have hz4:=hb4.size;have HB4:=hb2.trans (hb4.mono (by omega));have HO4:=Lib.hid (Zo Ho2.out hb4);have H54:=Lib.hid (Zq H5.out hb4);have z0:=(cell_of_row _ _ 0 _ _ _ H54.out);have z1:=(cell_of_row _ _ 1 _ _ _ H54.out);have z2:=(cell_of_row _ _ 2 _ _ _ H54.out);have z3:=(cell_of_row _ _ 3 _ _ _ H54.out);simp at z0 z1 z2 z3)|(go_at_call 264;refine(hsi _ HB4).mono ?_;rintro e w5 ⟨rfl,hb5⟩;have hz5:=hb5.size;have HB5:=HB4.trans (hb5.mono (by omega));have HO5:=Lib.hid (Zo HO4.out hb5);have H55:=Lib.hid (Zq H54.out hb5))|(at_builtin;refine wpList_append_own _ rfl _ _ 261 rfl w.heap.size 264 i0 _ 2 16 Tryz.underlying261 hi iz0 iz1 iz2 rfl (by decide) _ _ _ rfl (HO5.out.alloc _) ⟨w5.heap.size,0,none⟩ 1 1 [.int .i64 ((x.1.1:Int)+j),.int .i32 sg] rfl rfl ?d1 ?d2 ?d3 ?d4 ?d5 ?_))
       case d1=>exact ZqX w5 _ _ _
       case d2=>intro u hu;simp only [List.mem_cons,List.not_mem_nil,or_false] at hu;rcases hu with rfl|rfl<;>rfl
       case d3=>have:=Hln.out;unfold maxLen;omega
       case d4=>have:=Hln.out;omega
       case d5=>simp;omega
       intro v6 w6 hown6 hg6 h06;have HB6:=Z3 (HB5.alloc (by omega) (.cells #[.int .i64 ((x.1.1:Int)+j),.int .i32 sg] 264)) (HO5.out.alloc _) hg6 (by simp;omega) (Nat.le_refl _);have hl6:=(Array.getElem?_eq_some_iff.1 H55.out).1;have h55:=(Below.heap_alloc w5 (.cells #[.int .i64 ((x.1.1:Int)+j),.int .i32 sg] 264) _ hl6).trans H55.out;have H56:=Lib.hid ((hg6.block _ (by simp;omega) (ZeP (HO5.out.alloc _) h55 (by decide))).trans h55);clear h55;have Hown6:=Lib.hid hown6;clear hown6 hg6 h06;go_wp2_with fail
       refine⟨⟨j+1,by omega,by simp;omega,?_,H56.out,HB6⟩,by simp [intOf];omega⟩;have:=Hown6.out;rw [Hnx.out,←List.append_assoc,List.flatMap_append,List.length_append];simpa [prV] using this
     · obtain rfl:j=x.1.2.1:=by omega
       rw [List.take_of_length_le (by rw [Ze5];omega),←Hsn.out] at ho2;have Ho3:=Lib.hid ho2;clear ho2 h5;go_wp2_with (go_at_call 263;refine(hend _ _).mono ?_;rintro e w4 ⟨rfl,hb4⟩;have hz4:=hb4.size;have HB4:=hb2.trans (hb4.mono (by omega));have H54:=Lib.hid (Zq H5.out hb4);have z0:=(cell_of_row _ _ 0 _ _ _ H54.out);have z1:=(cell_of_row _ _ 1 _ _ _ H54.out);have z2:=(cell_of_row _ _ 2 _ _ _ H54.out);have z3:=(cell_of_row _ _ 3 _ _ _ H54.out);simp at z0 z1 z2 z3)
       refine⟨⟨k+1,by omega,by simp,Zo Ho3.out hb4,HB4⟩,by simp [intOf];omega⟩
  · obtain rfl:k=rs.length:=by omega
    rw [hall] at ho;obtain⟨A3,c3,rfl,hc3,hr3⟩:=Reads.of_own ho;have Hr3:=Lib.hid ho;clear ho hr3;go_wp2_with fail
    show P (.returned (.slice A3 ((rs.map (·.1)).flatMap prs).length c3)) wr
    rw [←hP];exact⟨_,rfl,Hr3.out,hb⟩
theorem Zh0 (A:Option Addr)(c:Nat)(rs:List (Rw×Sl))(hn:rs.length≤35184372089000)(w:World)(h:TbR w w.heap.size A rs):
 Calls Tryz.prog 206 #[.agg #[.slice A rs.length c]] w (ZfG ((rs.map (·.1)).flatMap prs) w):=
 (Zmi A c rs hn w h).mono fun e w' ⟨v,h1,h2,h3⟩=>by
  obtain⟨A3,c3,rfl,h4,h5⟩:=Reads.of_own h2;exact⟨A3,c3,h1,h4,h5,h3⟩
theorem bch {w w1 w2:World} (h1:Below w.heap.size w w1)(h2:Below w1.heap.size w1 w2):Below w.heap.size w w2:=h1.trans (h2.mono h1.size)
def Capt (W:World)(b3 b2:Nat)(code:Int)(A:Option Addr)(n c:Nat):Prop:=W.cell? ⟨b3,0,none⟩=some (.int .i64 code)∧W.cell? ⟨b2,0,none⟩=some (.slice A n c)
def FwS (W:World)(b3 b2:Nat)(code:Int)(ad:Addr)(n c k:Nat)(x:Rw×Sl)(W':World):Prop:=(W'.cell? ⟨b3,0,none⟩=some (.int .i64 code)∧W'.cell? ⟨b2,0,none⟩=some (.slice (some ad) n c)∧W'.cell? (ad.add (k*4))=some (.int .i64 (x.1.1:Int))∧W'.cell? ⟨(ad.add (k*4)).block,(ad.add (k*4)).off+1,none⟩=some (.int .i64 (x.1.2.1:Int))∧
 W'.cell? ⟨(ad.add (k*4)).block,(ad.add (k*4)).off+2,none⟩=some (.int .i32 x.1.2.2.1)∧W'.cell? ⟨(ad.add (k*4)).block,(ad.add (k*4)).off+3,none⟩=some (.slice x.2.1 x.2.2.1 x.2.2.2))∧Below W.heap.size W W'
theorem FwS.keep {W:World} {b3 b2:Nat} {code:Int} {ad:Addr} {n c k:Nat} {x:Rw×Sl} {W' W'':World} (h:FwS W b3 b2 code ad n c k x W')(hb:Below W'.heap.size W' W''):FwS W b3 b2 code ad n c k x W'':=by
 obtain⟨⟨h1,h2,h3,h4,h5,h6⟩,h7⟩:=h;have hk:∀{a:Addr} {v:Value},W'.cell? a=some v→W''.cell? a=some v:=fun{a v} e=>(hb.cell (World.block_lt_of_cell? _ _ e)).trans e;exact⟨⟨hk h1,hk h2,hk h3,hk h4,hk h5,hk h6⟩,bch h7 hb⟩
theorem ZlY (b3 b2:Nat)(code:Int)(A:Option Addr)(c:Nat)(rs:List (Rw×Sl))(B k:Nat)(x:Rw×Sl)(W:World)(hc:Capt W b3 b2 code A rs.length c)(h:TbR W B A rs)(hk:rs[k]? =some x):
 Calls Tryz.prog 377 #[.int .i64 (k:Int),.pointer (some ⟨b3,0,none⟩),.pointer (some ⟨b2,0,none⟩)] W fun e w'=>e= .returned (.bool (decide (code<(x.1.1:Int)+x.1.2.1)))∧Below W.heap.size W w':=by
 obtain⟨c3,c2⟩:=hc;have hlt:k<rs.length:=by
  rcases Nat.lt_or_ge k rs.length with h|h
  · exact h
  · rw [List.getElem?_eq_none h] at hk;cases hk
 obtain⟨ad,rfl,hadb,y0,y1,y2,y3,hok,_,_⟩:=h.row hk;have hend:=fun v W=>ZbO x.1.1 x.1.2.1 x.1.2.2.1 v hok.2.1 W;go_enter Tryz.func377,Tryz.ntmps377
 go_wp2_with fail
 have hS0:FwS W b3 b2 code ad rs.length c k x W.drew:=⟨⟨c3,c2,y0,y1,y2,y3⟩,(Below.refl _ _).drew⟩
 refine ZbM (FwS W b3 b2 code ad rs.length c k x) [(0,true),(1,true),(2,true),(3,true),(4,true),(5,true),(6,false),(7,true),(8,true)] (by kernel_rfl) (by kernel_rfl) (by kernel_rfl) (Nat.le_of_ble_eq_true rfl) (fun _ _ d _ _ h=>by cases d<;>exact h) hS0 ?_
 repeat (first
  |(refine ZeS rfl (by rfl) ?_;try simp only [Act.put,List.setIfInBounds_toArray,List.set_cons_zero,List.set_cons_succ])
  |(refine' ZW rfl (by rfl) _ (fun w' hSw=>_) _;rotate_left;(obtain⟨⟨s1,s2,s3,s4,s5,s6⟩,_⟩:=hSw;go_simp;try with_reducible rfl);try simp only [Act.put,List.setIfInBounds_toArray,List.set_cons_zero,List.set_cons_succ])
  |(refine Zac rfl (by rfl) (fun K hK=> ?_);go_simp;(go_at_call 263;refine(hend _ _).mono ?_;rintro e w4 ⟨rfl,hb4⟩);go_wp2_with fail;have hS4:=hS0.keep hb4;refine hK.out _ _ hS4 ?_;clear hK K;try simp only [Act.put,List.setIfInBounds_toArray,List.set_cons_zero,List.set_cons_succ]))
 refine ZbD ?_;go_wp2_with fail
 go_ret
 exact⟨rfl,hS4.2⟩
def Zas (rs:List (Rw×Sl))(code:Int)(k:Nat):Bool:=match rs[k]? with
 |none=>true
 |some x=>decide (code<(x.1.1:Int)+x.1.2.1)
theorem Zn2 {w:World} {B:Nat} {A:Option Addr} {rs:List (Rw×Sl)} (h:TbR w B A rs){code:Int} {a b:Nat} (hab:a≤b)(ha:Zas rs code a=true):Zas rs code b=true:=by
 unfold Zas at*;cases hb:rs[b]? with
 |none=>rfl
 |some y=>
  have hlt:=(List.getElem?_eq_some_iff.1 hb).1;have hx:rs[a]? =some rs[a]:=List.getElem?_eq_getElem (by omega);rw [hx] at ha;simp only [decide_eq_true_eq] at ha⊢;rcases Nat.lt_or_ge a b with h1|h1
  · have hp:=h.2.2.1;rw [List.pairwise_map,List.pairwise_iff_getElem] at hp;have:=hp a b (by omega) hlt h1;rw [List.getElem?_eq_getElem hlt] at hb;injection hb with hb
    subst hb;omega
  · obtain rfl:a=b:=by omega
    rw [hb] at hx;injection hx with hx
    rw [←hx] at ha;exact ha
def ShRel (rs:List (Rw×Sl))(code:Int)(w0:World)(i j:Value)(wr:World):Prop:=∃lo hi:Nat,lo≤hi∧hi≤rs.length∧i= .int .i64 lo∧j= .int .i64 hi∧(∀k,k<lo→Zas rs code k=false)∧Zas rs code hi=true∧Below w0.heap.size w0 wr
theorem ZmJ (b3 b2:Nat)(code:Int)(A:Option Addr)(c:Nat)(rs:List (Rw×Sl))(hn:rs.length≤35184372089000)(W:World)(hc:Capt W b3 b2 code A rs.length c)(h:TbR W W.heap.size A rs):
 Calls Tryz.prog 376 #[.int .i64 rs.length,.func (.func 377) #[] #[.pointer (some ⟨b3,0,none⟩),.pointer (some ⟨b2,0,none⟩)]] W fun e w'=>∃k:Nat,e= .returned (.int .i64 k)∧k≤rs.length∧(∀j,j<k→Zas rs code j=false)∧Zas rs code k=true∧Below W.heap.size W w':=by
 have hend:Zas rs code rs.length=true:=by unfold Zas;rw [List.getElem?_eq_none (Nat.le_refl _)]
 go_enter Tryz.func376,Tryz.ntmps376
 go_wp2_with fail
 go_loopw [5,6] (fun i j wr=>ShRel rs code W i j wr) (fun i j _=>(intOf j).toNat - (intOf i).toNat)
 case atStart=>exact⟨0,rs.length,by omega,Nat.le_refl _,rfl,rfl,(fun k hk=>by omega),hend,Below.refl _ _⟩
 case round=>
  obtain⟨lo,hi,h1,h2,rfl,rfl,h3,h4,hb⟩:=hrel;have H3:=Lib.hid h3;have H4:=Lib.hid h4;clear h3 h4 hend;by_cases hlt:lo<hi
  · have hmid:(lo+hi) / 2<hi∧lo≤(lo+hi) / 2:=by omega
    obtain⟨m,hm⟩:∃m,m=(lo+hi) / 2:=⟨_,rfl⟩
    rw [←hm] at hmid;obtain⟨x,hx⟩:∃x,rs[m]? =some x:=⟨_,List.getElem?_eq_getElem (by omega)⟩
    have hmi:((lo:Int)+hi) / 2=(m:Int):=by omega
    have hcw:Capt wr b3 b2 code A rs.length c:=⟨(hb.cell (World.block_lt_of_cell? _ _ hc.1)).trans hc.1,(hb.cell (World.block_lt_of_cell? _ _ hc.2)).trans hc.2⟩
    have hfw:=ZlY b3 b2 code A c rs W.heap.size m x wr hcw (h.below hb) hx;have hE:Zas rs code m=decide (code<(x.1.1:Int)+x.1.2.1):=by unfold Zas;rw [hx]
    rw [←hE] at hfw;have hz:=hb.size;clear hm;cases hq:Zas rs code m with
    |true=>
     rw [hq] at hfw;have Hq:=Lib.hid hq;clear hq hE;go_wp2_with (go_at_call 377;refine hfw.mono ?_;rintro e w1 ⟨rfl,hb1⟩)
     go_roundw
     case rel=>exact⟨lo,m,by omega,by omega,rfl,rfl,H3.out,Hq.out,bch hb hb1⟩
     case measure=>simp [intOf];omega
    |false=>
     rw [hq] at hfw;have Hq:=Lib.hid hq;clear hq hE;go_wp2_with (go_at_call 377;refine hfw.mono ?_;rintro e w1 ⟨rfl,hb1⟩)
     go_roundw
     case rel=>
      refine⟨m+1,hi,by omega,by omega,by simp,rfl,fun k hk=> ?_,H4.out,bch hb hb1⟩;cases hk2:Zas rs code k with
      |false=>rfl
      |true=>
       have:=Zn2 h (a:=k) (b:=m) (by omega) hk2;rw [Hq.out] at this;cases this
     case measure=>simp [intOf];omega
  · obtain rfl:lo=hi:=by omega
    go_wp2_with fail
    go_ret
    exact⟨lo,rfl,h2,H3.out,H4.out,hb⟩
def Zbo (rs:List Rw)(code:Int):Option Int:=((rs.flatMap prs).find? fun x=>decide ((x.1:Int)=code)).map (·.2)
theorem Zi8 (code:Int):∀(L:List Pr) (y:Pr),Srt L→y∈L→(y.1:Int)=code→L.find? (fun x=>decide ((x.1:Int)=code))=some y
 |[],y,_,h,_=>by simp at h
 |a::L,y,hs,h,he=>by
  have hs':=List.pairwise_cons.1 hs;rw [List.find?_cons];by_cases ha:(a.1:Int)=code
  · rw [decide_eq_true ha];rcases List.mem_cons.1 h with rfl|h
    · rfl
    · have:=hs'.1 y h;omega
  · rw [decide_eq_false ha];rcases List.mem_cons.1 h with rfl|h
    · exact absurd he ha
    · exact Zi8 code L y hs'.2 h he
theorem Zod {w:World} {B:Nat} {A:Option Addr} {rs:List (Rw×Sl)} (h:TbR w B A rs){x:Rw×Sl} (hx:x∈rs){c:Nat} (h1:x.1.1≤c)(h2:c<x.1.1+x.1.2.1):Zbo (rs.map (·.1)) (c:Int)=some (ZR x.1 (c - x.1.1)):=by
 unfold Zbo;rw [Zi8 (c:Int) _ (c,ZR x.1 (c - x.1.1)) (Zdm _ h.2.2.1) (List.mem_flatMap.2 ⟨x.1,List.mem_map_of_mem hx,ZaG.2 ⟨h1,h2,rfl⟩⟩) rfl];rfl
theorem Zjj {rs:List (Rw×Sl)} {code:Int} (h:∀x∈rs,code<(x.1.1:Int)∨(x.1.1:Int)+x.1.2.1≤code):Zbo (rs.map (·.1)) code=none:=by
 unfold Zbo;rw [List.find?_eq_none.2]
 · rfl
 intro y hy;obtain⟨r,hr,hyr⟩:=List.mem_flatMap.1 hy;obtain⟨x,hx,rfl⟩:=List.mem_map.1 hr;have h1:=h x hx;have h2:=ZaG.1 hyr;simp only [decide_eq_true_eq];omega
def Zct (rs:List (Rw×Sl))(code:Int)(w0:World)(e:Ending)(w':World):Prop:=e= .returned (.tuple #[.int .i32 ((Zbo (rs.map (·.1)) code).getD 0),.bool (Zbo (rs.map (·.1)) code).isSome])∧Below w0.heap.size w0 w'
theorem ZlX (A:Option Addr)(c:Nat)(rs:List (Rw×Sl))(code:Int)(hn:rs.length≤35184372089000)(w:World)(h:TbR w w.heap.size A rs):
 Calls Tryz.prog 356 #[.agg #[.slice A rs.length c],.int .i64 code] w (Zct rs code w):=by
 have HN:Hid (Zbo (rs.map (·.1)) code=none→∀w',Below w.heap.size w w'→Zct rs code w (.returned (.tuple #[.int .i32 0,.bool false])) w'):=Lib.hid fun h w' hb=>by unfold Zct;rw [h];exact⟨rfl,hb⟩
 have HY:Hid (∀z,Zbo (rs.map (·.1)) code=some z→∀w',Below w.heap.size w w'→Zct rs code w (.returned (.tuple #[.int .i32 z,.bool true])) w'):=Lib.hid fun z h w' hb=>by unfold Zct;rw [h];exact⟨rfl,hb⟩
 generalize Zct rs code w=P at*;obtain⟨WB,hWB⟩:∃W,W=(w.alloc (.cells #[.slice A rs.length c] 205)).alloc (.cells #[.int .i64 code] 3):=⟨_,rfl⟩
 have hBW:Below w.heap.size w WB:=by rw [hWB];exact((Below.refl _ w).alloc (Nat.le_refl _) _).alloc (by simp) _
 have hcap:Capt WB (w.heap.size+1) w.heap.size code A rs.length c:=by
  rw [hWB];constructor
  · have:=cell_of_row ((w.alloc (.cells #[.slice A rs.length c] 205)).alloc (.cells #[.int .i64 code] 3)) (w.alloc (.cells #[.slice A rs.length c] 205)).heap.size 0 _ 3 (0,0) (heap_alloc_new _ _);simp only [World.size_alloc] at this;exact this
  · rw [World.cell?_alloc_lt _ _ _ (by simp),cell_of_row _ w.heap.size 0 _ 205 (0,0) (heap_alloc_new w _)];rfl
 have hsr:=ZmJ (w.heap.size+1) w.heap.size code A c rs hn WB hcap ((h.below hBW).more hBW.size);rw [hWB] at hsr;have hzW:WB.heap.size=w.heap.size+2:=by rw [hWB];simp
 go_enter Tryz.func356,Tryz.ntmps356
 go_wp2_with (go_at_call 376;refine hsr.mono ?_;rintro e w1 ⟨k,rfl,hk,hlo,hhi,hb1⟩;rw [←hWB] at hb1;have HB1:=bch hBW hb1;have hk2:Capt w1 (w.heap.size+1) w.heap.size code A rs.length c:=⟨(hb1.cell (World.block_lt_of_cell? _ _ hcap.1)).trans hcap.1,(hb1.cell (World.block_lt_of_cell? _ _ hcap.2)).trans hcap.2⟩;obtain⟨k3,k2⟩:=hk2;have Hlo:=Lib.hid hlo;have Hhi:=Lib.hid hhi;clear hlo hhi)
 have hTB:=h.below HB1;by_cases hkl:k<rs.length
 · obtain⟨x,hx⟩:∃x,rs[k]? =some x:=⟨_,List.getElem?_eq_getElem hkl⟩
   obtain⟨ad,hA,hadb,y0,y1,y2,y3,hok,hsg,hmem⟩:=hTB.row hx;subst hA;have hend:code<(x.1.1:Int)+x.1.2.1:=by
    have:=Hhi.out;unfold Zas at this;rw [hx] at this;simpa using this
   have hkd:((k:Int)==(rs.length:Int))=false:=by rw [beq_eq_false_iff_ne];omega
   have ok2:=hok.2.1;by_cases hfr:code<(x.1.1:Int)
   · have hd:decide (code<(x.1.1:Int))=true:=decide_eq_true hfr;have hm:Zbo (rs.map (·.1)) code=none:=Zjj fun y hy=>by
      obtain⟨j,hj,rfl⟩:=List.getElem_of_mem hy;rcases Nat.lt_or_ge j k with h1|h1
      · right
        have:=Hlo.out j h1;unfold Zas at this;rw [List.getElem?_eq_getElem hj] at this;simpa using this
      · left
        rcases Nat.lt_or_ge k j with h2|h2
        · have hp:=h.2.2.1;rw [List.pairwise_map,List.pairwise_iff_getElem] at hp;have:=hp k j hkl hj h2;rw [List.getElem?_eq_getElem hkl] at hx;injection hx with hx
          subst hx;omega
        · obtain rfl:j=k:=by omega
          rw [List.getElem?_eq_getElem hkl] at hx;injection hx with hx
          subst hx;exact hfr
     have Hf:=Lib.hid (HN.out hm);clear HN HY hm
     go_quiet (fail)
     go_wp2_with fail
     show P (.returned (.tuple #[.int .i32 0,.bool false])) _
     exact Hf.out _ (below_drewN HB1 _)
   · have hd:decide (code<(x.1.1:Int))=false:=decide_eq_false hfr;obtain⟨cn,rfl⟩:∃n:Nat,code=n:=⟨code.toNat,by omega⟩
     have hm:=Zod h hmem (c:=cn) (by omega) (by omega);have Hf:=Lib.hid (HY.out _ hm);have hsi:=fun W (hB:Below w.heap.size w W)=>ZfL x cn hok ⟨by omega,by omega⟩ W (((h.2.1 x hmem).2.below hB).more hB.size);unfold rV slV at hsi;generalize ZR x.1 (cn - x.1.1)=sg at*;clear HN HY hm;have hS1:FwS w1 (w.heap.size+1) w.heap.size (cn:Int) ad rs.length c k x w1:=⟨⟨k3,k2,y0,y1,y2,y3⟩,Below.refl _ _⟩
     go_quiet (fail)
     go_wp2_with fail
     have hS2:=hS1.keep (below_drewN (Below.refl w1.heap.size w1) nq);have hS0:FwS w1 (w.heap.size+1) w.heap.size (cn:Int) ad rs.length c k x (w1.drewN nq).drew:=⟨hS2.1,hS2.2.drew⟩
     refine ZbM (FwS w1 (w.heap.size+1) w.heap.size (cn:Int) ad rs.length c k x) [(0,true),(1,true),(2,true),(3,true),(4,true),(5,true),(6,false),(7,true),(8,true)] (by kernel_rfl) (by kernel_rfl) (by kernel_rfl) (Nat.le_of_ble_eq_true rfl) (fun _ _ d _ _ h=>by cases d<;>exact h) hS0 ?_
     repeat (first
      |(refine ZeS rfl (by rfl) ?_;try simp only [Act.put,List.setIfInBounds_toArray,List.set_cons_zero,List.set_cons_succ])
      |(refine' ZW rfl (by rfl) _ (fun w' hSw=>_) _;rotate_left;(obtain⟨⟨s1,s2,s3,s4,s5,s6⟩,_⟩:=hSw;go_simp;try with_reducible rfl);try simp only [Act.put,List.setIfInBounds_toArray,List.set_cons_zero,List.set_cons_succ])
      |(refine Zac rfl (by rfl) (fun K hK=> ?_);go_simp;(go_at_call 264;refine(hsi _ (bch HB1 hS0.2)).mono ?_;rintro e w4 ⟨rfl,hb4⟩);go_wp2_with fail;have hS4:=hS0.keep hb4;refine hK.out _ _ hS4 ?_;clear hK K;try simp only [Act.put,List.setIfInBounds_toArray,List.set_cons_zero,List.set_cons_succ]))
     refine ZbD ?_;go_wp2_with fail
     show P (.returned (.tuple #[.int .i32 sg,.bool true])) _
     exact Hf.out _ (bch HB1 hS4.2)
 · obtain rfl:k=rs.length:=by omega
   have hkd:((rs.length:Int)==(rs.length:Int))=true:=by simp
   have hm:Zbo (rs.map (·.1)) code=none:=Zjj fun y hy=>by
    obtain⟨j,hj,rfl⟩:=List.getElem_of_mem hy
    right
    have:=Hlo.out j hj;unfold Zas at this;rw [List.getElem?_eq_getElem hj] at this;simpa using this
   have Hf:=Lib.hid (HN.out hm);clear HN HY hm
   go_quiet (fail)
   go_wp2_with fail
   show P (.returned (.tuple #[.int .i32 0,.bool false])) _
   exact Hf.out _ (below_drewN HB1 _)
def Zk (rs:List (Rw×Sl)):List Pr:=(rs.map (·.1)).flatMap prs
theorem ZdQ {rs:List (Rw×Sl)} {y:Pr}:y∈Zk rs↔∃x∈rs,y∈prs x.1:=by
 unfold Zk;rw [List.mem_flatMap];constructor
 · rintro⟨r,hr,hy⟩;obtain⟨x,hx,rfl⟩:=List.mem_map.1 hr;exact⟨x,hx,hy⟩
 · rintro⟨x,hx,hy⟩;exact⟨x.1,List.mem_map_of_mem hx,hy⟩
theorem hasT {rs:List (Rw×Sl)} {c:Nat}:Z5 (Zk rs) c=true↔∃x∈rs,x.1.1≤c∧c<x.1.1+x.1.2.1:=by
 rw [ZdO];constructor
 · rintro⟨y,hy,rfl⟩;obtain⟨x,hx,h⟩:=ZdQ.1 hy;have:=ZaG.1 h;exact⟨x,hx,this.1,this.2.1⟩
 · rintro⟨x,hx,h1,h2⟩;exact⟨(c,ZR x.1 (c - x.1.1)),ZdQ.2 ⟨x,hx,ZaG.2 ⟨h1,h2,rfl⟩⟩,rfl⟩
def Zag (ts:List (Rw×Sl))(done:Pr→Prop)(ps:List (Rw×Sl))(cur:Nat):Prop:=
 (∀y,(∃x∈ps,y∈prs x.1)↔done y∧Z5 (Zk ts) y.1=false)∧((ps.map (·.1)).Pairwise fun a b=>a.1+a.2.1≤b.1)∧(∀x∈ps,x.1.1+x.1.2.1≤cur)∧∀x∈ps,Zah x.1
section
variable {ts ps:List (Rw×Sl)} {done:Pr→Prop} {cur:Nat}
theorem Zag.mem (h:Zag ts done ps cur):∀y,(∃x∈ps,y∈prs x.1)↔done y∧Z5 (Zk ts) y.1=false:=h.1
theorem Zag.asc (h:Zag ts done ps cur):(ps.map (·.1)).Pairwise fun a b=>a.1+a.2.1≤b.1:=h.2.1
theorem Zag.le (h:Zag ts done ps cur):∀x∈ps,x.1.1+x.1.2.1≤cur:=h.2.2.1
theorem Zag.ok (h:Zag ts done ps cur):∀x∈ps,Zah x.1:=h.2.2.2
end
theorem ov_nil (ts:List (Rw×Sl))(cur:Nat):Zag ts (fun _=>False) [] cur:=⟨by simp,by simp,by simp,by simp⟩
theorem Zag.more {ts:List (Rw×Sl)} {d d':Pr→Prop} {ps:List (Rw×Sl)} {cur cur':Nat} (h:Zag ts d ps cur)(hd:∀y,Z5 (Zk ts) y.1=false→(d y↔d' y))(hc:cur≤cur'):Zag ts d' ps cur':=
 ⟨fun y=>by rw [h.mem];constructor<;>(rintro⟨a,b⟩;exact⟨by first|exact(hd y b).1 a|exact(hd y b).2 a,b⟩),h.asc,fun x hx=>Nat.le_trans (h.le x hx) hc,h.ok⟩
theorem Zag.part {ts:List (Rw×Sl)} {d:Pr→Prop} {ps:List (Rw×Sl)} {a b:Nat} {r:Rw} {q:Sl} (h:Zag ts d ps a)(hr:Zah r)(h1:r.1≤a)(h2:a<b)(h3:b≤r.1+r.2.1)(hn:∀c,a≤c→c<b→Z5 (Zk ts) c=false):
 Zag ts (fun y=>d y∨(y∈prs r∧a≤y.1∧y.1<b)) (ps++[(Zz r a b,q)]) b:=by
 refine⟨fun y=> ?_,?_,fun x hx=> ?_,fun x hx=> ?_⟩
 · constructor
   · rintro⟨x,hx,hy⟩;rcases List.mem_append.1 hx with hx|hx
     · have:=(h.mem y).1 ⟨x,hx,hy⟩;exact⟨.inl this.1,this.2⟩
     · simp only [List.mem_singleton] at hx;subst hx;have:=(Zkx h1 h3).1 hy;exact⟨.inr ⟨this.2.2,this.1,this.2.1⟩,hn _ this.1 this.2.1⟩
   · rintro⟨hy|⟨hy,h4,h5⟩,hc⟩
     · obtain⟨x,hx,hyx⟩:=(h.mem y).2 ⟨hy,hc⟩;exact⟨x,by simp [hx],hyx⟩
     · exact⟨_,List.mem_append_right _ (List.mem_singleton.2 rfl),(Zkx h1 h3).2 ⟨h4,h5,hy⟩⟩
 · rw [List.map_append,List.pairwise_append];refine⟨h.asc,by simp,fun x hx y hy=> ?_⟩;simp only [List.map_cons,List.map_nil,List.mem_singleton] at hy;subst hy;obtain⟨z,hz,rfl⟩:=List.mem_map.1 hx;exact h.le z hz
 · rcases List.mem_append.1 hx with hx|hx
   · have:=h.le x hx;omega
   · simp only [List.mem_singleton] at hx;subst hx;show a+(b - a)≤b
     omega
 · rcases List.mem_append.1 hx with hx|hx
   · exact h.ok x hx
   · simp only [List.mem_singleton] at hx;subst hx;exact Ze2 hr h1 h2 h3
theorem ov_end {ts os ps rs:List (Rw×Sl)} {cur:Nat} (ht:Zcw (ts.map (·.1)))(ho:Zcw (os.map (·.1)))(h:Zag ts (fun y=>y∈Zk os) ps cur)(hp:rs.Perm (ts++ps))(hs:rs.Pairwise fun a b=>a.1.1≤b.1.1):
 Zcw (rs.map (·.1))∧Zk rs=Zck (Zk ts) (Zk os):=by
 have hok:∀x∈rs,Zah x.1:=fun x hx=>by
  rcases List.mem_append.1 (hp.mem_iff.1 hx) with h1|h1
  · exact ht.2 _ (List.mem_map_of_mem h1)
  · exact h.ok x h1
 have hap:((ts++ps).map (·.1)).Pairwise Zbv:=by
  rw [List.map_append,List.pairwise_append];refine⟨ht.1.imp fun h=> .inl h,h.asc.imp fun h=> .inl h,fun a ha b hb=> ?_⟩;obtain⟨x,hx,rfl⟩:=List.mem_map.1 ha;obtain⟨y,hy,rfl⟩:=List.mem_map.1 hb;have hx1:=(ht.2 _ (List.mem_map_of_mem (f:=(·.1)) hx)).1;have hy1:=(h.ok y hy).1;unfold Zbv;rcases Nat.lt_or_ge (max x.1.1 y.1.1) (x.1.1+x.1.2.1) with h1|h1
  · rcases Nat.lt_or_ge (max x.1.1 y.1.1) (y.1.1+y.1.2.1) with h2|h2
    · have:=((h.mem (max x.1.1 y.1.1,ZR y.1 (max x.1.1 y.1.1 - y.1.1))).1 ⟨y,hy,ZaG.2 ⟨by simp;omega,by simp;omega,rfl⟩⟩).2;have h3:Z5 (Zk ts) (max x.1.1 y.1.1)=true:=hasT.2 ⟨x,hx,by omega,h1⟩;simp only at this;rw [h3] at this;cases this
    · omega
  · omega
 have hap2:(rs.map (·.1)).Pairwise Zbv:=by
  refine((hp.map _).pairwise_iff ?_).2 hap;intro a b h;unfold Zbv at*;omega
 have hasc:(rs.map (·.1)).Pairwise fun a b=>a.1+a.2.1≤b.1:=by
  have hs2:(rs.map (·.1)).Pairwise fun a b=>a.1≤b.1:=by rw [List.pairwise_map];exact hs
  refine(hs2.and hap2).imp_of_mem ?_;intro a b hma hmb h;obtain⟨h1,h2⟩:=h;obtain⟨x,hx,rfl⟩:=List.mem_map.1 hmb;have:=(hok x hx).1;unfold Zbv at h2;omega
 have hro:Zcw (rs.map (·.1)):=⟨hasc,fun r hr=>by obtain⟨x,hx,rfl⟩:=List.mem_map.1 hr;exact hok x hx⟩
 refine⟨hro,Zpm (Zdm _ ht.1) (Zdm _ ho.1) (Zdm _ hasc) fun y=> ?_⟩;rw [show y∈Zk rs↔∃x∈rs,y∈prs x.1 from ZdQ];constructor
 · rintro⟨x,hx,hy⟩;rcases List.mem_append.1 (hp.mem_iff.1 hx) with h1|h1
   · exact .inl (ZdQ.2 ⟨x,h1,hy⟩)
   · exact .inr ((h.mem y).1 ⟨x,h1,hy⟩)
 · rintro(h1|h1)
   · obtain⟨x,hx,hy⟩:=ZdQ.1 h1;exact⟨x,hp.mem_iff.2 (List.mem_append_left _ hx),hy⟩
   · obtain⟨x,hx,hy⟩:=(h.mem y).2 h1;exact⟨x,hp.mem_iff.2 (List.mem_append_right _ hx),hy⟩
theorem ZlN (A:Option Addr)(c:Nat)(ts:List (Rw×Sl))(hn:ts.length≤10000000)(B:Nat)(w:World)(h:Zbz w B A ts):
 Calls Tryz.prog 311 #[.slice A ts.length c] w fun e w'=>∃v,e= .returned v∧w'.ownsRow w.heap.size 322 4 v ts.length (ts.flatMap rV)∧Below w.heap.size w w':=by
 obtain⟨i0,hi,iz0,iz1,iz2⟩:=info_parts Zg6;cases A with
 |none=>
  have h0:ts=[]:=by
   rcases Nat.eq_zero_or_pos ts.length with h1|h1
   · exact List.eq_nil_of_length_eq_zero h1
   · obtain⟨ad,hA,_⟩:=h.1.2 h1;cases hA
  subst h0;have:=AnyE.slices_Clone_nil Tryz.laysClone 0 c w;change Calls Tryz.prog 311 _ _ _ at this
  refine this.mono ?_;rintro e w' ⟨rfl,rfl⟩;exact⟨_,rfl,World.ownsRow_nil _ _ _ _,Below.refl _ _⟩
 |some ad=>
  obtain⟨bk,off,sp⟩:=ad;obtain rfl:sp=none:=h.2 _ rfl;have hl:=ZdL rV ZcM ts;have hc:∀j u,(ts.flatMap rV)[j]? =some u→w.cell? ⟨bk,off+j,none⟩=some u:=fun j u hu=>by
   have hj:0<ts.length:=by
    rcases Nat.eq_zero_or_pos ts.length with h1|h1
    · rw [List.getElem?_eq_none (by omega)] at hu;cases hu
    · exact h1
   obtain⟨ad,hA,_,hc⟩:=h.1.2 hj;injection hA with hA
   subst hA;have:=hc j u hu
   rwa [addr_eq rfl] at this
  have:=AnyE.slices_Clone Tryz.laysClone i0 _ 4 48 hi iz0 iz1 iz2 rfl (by decide) Tryz.sizeOf322 bk off ts.length c (ts.flatMap rV) w hl (by unfold maxLen;omega) (by omega) hc (fun u hu=>by
   obtain⟨x,_,hx⟩:=List.mem_flatMap.1 hu;exact ZkJ x u hx)
  change Calls Tryz.prog 311 _ _ _ at this
  refine this.mono ?_;rintro e w' ⟨v,rfl,h1,_,h3⟩;exact⟨v,rfl,h1,h3⟩
end Go.Proofs.YtnbkfkbcpfkddaaGreatDoor
