/- Lemmas for a statement on the tops; conditions: as each says. -/
import Derived.Test.YtlglfmbccihopaaGreatDoorM20
set_option linter.unusedVariables false
set_option linter.unusedSimpArgs false
set_option maxRecDepth 100000
set_option maxHeartbeats 8000000
namespace Go.Proofs.YtlglfmbccihopaaGreatDoor
open Go Go.RowKit
def TbR (w:World)(B:Nat)(A:Option Addr)(rs:List (Rw×Sl)):Prop:=Zb2 w B A rs∧(∀x∈rs,Zap x.1∧Zz w B x)∧Zc2 (rs.map (·.1))
theorem TbR.below {w w':World} {B:Nat} {A:Option Addr} {rs:List (Rw×Sl)} (h:TbR w B A rs)(hb:Below B w w'):TbR w' B A rs:=by
 obtain⟨⟨h1,h2⟩,h3,h4⟩:=h;exact⟨⟨h1.below hb,h2⟩,fun x hx=>⟨(h3 x hx).1,(h3 x hx).2.below hb⟩,h4⟩
theorem TbR.more {w:World} {B B':Nat} {A:Option Addr} {rs:List (Rw×Sl)} (h:TbR w B A rs)(hb:B≤B'):TbR w B' A rs:=by
 obtain⟨⟨h1,h2⟩,h3,h4⟩:=h;exact⟨⟨h1.more hb,h2⟩,fun x hx=>⟨(h3 x hx).1,(h3 x hx).2.more hb⟩,h4⟩
theorem Zed (ad:Addr)(k i:Nat)(hi:i≠0):ad.add (k+i)=⟨(ad.add k).block,(ad.add k).off+i,none⟩:=by
 rw [←ZgS];show(if i=0 then _ else _)=_
 rw [if_neg hi]
theorem TbR.row {w:World} {B:Nat} {A:Option Addr} {rs:List (Rw×Sl)} (h:TbR w B A rs){k:Nat} {x:Rw×Sl} (hk:rs[k]? =some x):
 ∃ad,A=some ad∧ad.block<B∧w.cell? (ad.add (k*4))=some (.int .i64 (x.1.1:Int))∧w.cell? ⟨(ad.add (k*4)).block,(ad.add (k*4)).off+1,none⟩=some (.int .i64 (x.1.2.1:Int))∧
  w.cell? ⟨(ad.add (k*4)).block,(ad.add (k*4)).off+2,none⟩=some (.int .i32 x.1.2.2.1)∧w.cell? ⟨(ad.add (k*4)).block,(ad.add (k*4)).off+3,none⟩=some (.slice x.2.1 x.2.2.1 x.2.2.2)∧Zap x.1∧Zz w B x∧x∈rs:=by
 obtain⟨⟨⟨_,h1⟩,_⟩,h3,_⟩:=h;have hlt:k<rs.length:=by
  rcases Nat.lt_or_ge k rs.length with h|h
  · exact h
  · rw [List.getElem?_eq_none h] at hk;cases hk
 obtain⟨ad,hA,hb,hc⟩:=h1 (by omega);have hx:=List.mem_of_getElem? hk;have hg:∀i u,(rV x)[i]? =some u→i<4→w.cell? (ad.add (k*4+i))=some u:=fun i u hu hi=>hc _ _ ((Zfu rV Zdj rs k i x hk hi).trans hu);have g0:=hg 0 _ rfl (by omega);have g1:=hg 1 _ rfl (by omega);have g2:=hg 2 _ rfl (by omega);have g3:=hg 3 _ rfl (by omega);rw [Nat.add_zero] at g0;rw [Zed _ _ _ (by omega)] at g1 g2 g3;exact⟨ad,hA,hb,g0,g1,g2,g3,(h3 x hx).1,(h3 x hx).2,hx⟩
def szR (rs:List (Rw×Sl)):Nat:=(rs.map fun x:Rw×Sl=>x.1.2.1).sum
theorem Ztp (rs:List (Rw×Sl))(k:Nat)(x:Rw×Sl)(h:rs[k]? =some x):szR (rs.take (k+1))=szR (rs.take k)+x.1.2.1:=by
 unfold szR;rw [List.take_add_one,h];simp
theorem Znc:∀(rs:List (Rw×Sl)) (lo:Nat),lo≤1048576→(∀x∈rs,lo≤x.1.1)→(rs.map (·.1)).Pairwise (fun a b=>a.1+a.2.1≤b.1)→(∀x∈rs,x.1.1+x.1.2.1≤1048576)→lo+szR rs≤1048576
 |[],lo,h,_,_,_=>by simpa [szR] using h
 |x::rs,lo,h,h1,h2,h3=>by
  rw [List.map_cons,List.pairwise_cons] at h2;have h4:=h3 x (by simp);have h5:=h1 x (by simp);have:=Znc rs (x.1.1+x.1.2.1) h4 (fun y hy=>h2.1 _ (List.mem_map_of_mem hy)) h2.2 (fun y hy=>h3 y (by simp [hy]));have e:szR (x::rs)=x.1.2.1+szR rs:=by simp [szR]
  omega
theorem TbR.total {w:World} {B:Nat} {A:Option Addr} {rs:List (Rw×Sl)} (h:TbR w B A rs):szR rs≤1048576:=by
 have:=Znc rs 0 (by omega) (fun _ _=>Nat.zero_le _) h.2.2.1 (fun x hx=>(h.2.1 x hx).1.2.1);omega
theorem Znd (rs:List (Rw×Sl))(k:Nat):szR (rs.take k)≤szR rs:=by
 unfold szR
 conv=>rhs;rw [←List.take_append_drop k rs]
 rw [List.map_append,List.sum_append];omega
theorem ZeK (rs:List (Rw×Sl)):((rs.map (·.1)).flatMap prs).length=szR rs:=by
 unfold szR;induction rs with
 |nil=>rfl
 |cons x rs ih=>rw [List.map_cons,List.flatMap_cons,List.length_append,Zf1,ih];simp
def SzRel (rs:List (Rw×Sl))(w0:World)(v i:Value)(wr:World):Prop:=∃k:Nat,k≤rs.length∧i= .int .i64 k∧v= .int .i64 (szR (rs.take k):Nat)∧Below w0.heap.size w0 wr
theorem Zjx (A:Option Addr)(c:Nat)(rs:List (Rw×Sl))(hn:rs.length≤35184372089000)(w:World)(h:TbR w w.heap.size A rs):
 Calls Tryz.prog 254 #[.agg #[.slice A rs.length c]] w fun e w'=>e= .returned (.int .i64 (szR rs:Nat))∧Below w.heap.size w w':=by
 have htot:=h.total;go_enter Tryz.func254,Tryz.ntmps254
 go_wp2_with fail
 go_loopw [3,9] (fun v i wr=>SzRel rs w v i wr) (fun _ i _=>rs.length - (intOf i).toNat)
 case atStart=>exact⟨0,by omega,rfl,rfl,(Below.refl _ w).alloc (Nat.le_refl _) _⟩
 case round=>
  obtain⟨k,hk,rfl,rfl,hb⟩:=hrel;by_cases hlt:k<rs.length
  · obtain⟨x,hx⟩:∃x,rs[k]? =some x:=⟨_,List.getElem?_eq_getElem hlt⟩
    obtain⟨ad,rfl,hadb,y0,y1,y2,y3,hok,_,_⟩:=(h.below hb).row hx;have hz:=hb.size;have hs:=Ztp rs k x hx;have hle:=Znd rs (k+1);have e1:IntKind.i64.wrap ((szR (rs.take k):Nat)+(x.1.2.1:Int))=((szR (rs.take (k+1)):Nat):Int):=by rw [hs,IntWalk.i64_in _ (by omega)];simp
    clear hs;generalize hq:szR (rs.take (k+1))=s' at e1;have Hq:=Lib.hid hq;clear hq hle;generalize szR (rs.take k)=s at*;go_wp2_with fail
    go_roundw
    case rel=>exact⟨k+1,by omega,by simp,by rw [Hq.out],hb.alloc (by omega) _⟩
    case measure=>simp [intOf];omega
  · obtain rfl:k=rs.length:=by omega
    rw [List.take_length];go_wp2_with fail
    go_ret
    exact⟨rfl,hb⟩
def Zcx (rs:List Rw)(p:Int):Option Nat:=rs.findSome? fun r=>lst r p
theorem Zsw (rs:List Rw)(p:Int):Zcx rs p=((rs.flatMap prs).find? fun x=>x.2==p).map (·.1):=by
 unfold Zcx lst;rw [List.find?_flatMap];induction rs with
 |nil=>rfl
 |cons r rs ih=>
  rw [List.findSome?_cons,List.findSome?_cons];cases(prs r).find? fun x=>x.2==p with
  |none=>simpa using ih
  |some x=>rfl
def RvRel (rs:List (Rw×Sl))(p:Int)(w0:World)(i:Value)(wr:World):Prop:=∃k:Nat,k≤rs.length∧i= .int .i64 k∧Zcx (rs.map (·.1)) p=Zcx ((rs.drop k).map (·.1)) p∧Below w0.heap.size w0 wr
theorem ZoQ (A:Option Addr)(c:Nat)(rs:List (Rw×Sl))(p:Int)(hp: -2147483648≤p∧p<2147483648)(hn:rs.length≤35184372089000)(w:World)(h:TbR w w.heap.size A rs):
 Calls Tryz.prog 352 #[.agg #[.slice A rs.length c],.int .i32 p] w fun e w'=>e= .returned (.tuple #[.int .i64 ((Zcx (rs.map (·.1)) p).getD 0:Nat),.bool (Zcx (rs.map (·.1)) p).isSome])∧Below w.heap.size w w':=by
 go_enter Tryz.func352,Tryz.ntmps352
 go_wp2_with fail
 go_loopw [13] (fun i wr=>RvRel rs p w i wr) (fun i _=>rs.length - (intOf i).toNat)
 case atStart=>exact⟨0,by omega,rfl,by simp,(Below.refl _ w).alloc (Nat.le_refl _) _⟩
 case round=>
  obtain⟨k,hk,rfl,hrv,hb⟩:=hrel;have hz:=hb.size;by_cases hlt:k<rs.length
  · obtain⟨x,hx⟩:∃x,rs[k]? =some x:=⟨_,List.getElem?_eq_getElem hlt⟩
    obtain⟨ad,rfl,hadb,y0,y1,y2,y3,hok,hsg,_⟩:=(h.below hb).row hx;have hdk:rs.drop k=x::rs.drop (k+1):=by
     obtain⟨h1,h2⟩:=List.getElem?_eq_some_iff.1 hx;rw [List.drop_eq_getElem_cons h1,h2]
    rw [hdk,List.map_cons] at hrv;unfold Zcx at hrv;rw [List.findSome?_cons] at hrv;have hcd:=fun(o:Obj)=>ZnX x p hp hok (wr.alloc o) (((hsg.more hz).below ((Below.refl _ _).alloc (Nat.le_refl _) o)).more (by simp));unfold ZeX rV slV at hcd;cases hl:lst x.1 p with
    |none=>
     rw [hl] at hrv hcd;have Hrv:=Lib.hid hrv;clear hrv hdk hl;go_wp2_with (go_at_call 374;refine(hcd _).mono ?_;rintro e w1 ⟨z,rfl,_,hb1⟩)
     go_roundw
     case rel=>exact⟨k+1,by omega,by simp,Hrv.out,hb.trans ((Zd hb1).mono (by omega))⟩
     case measure=>simp [intOf];omega
    |some v=>
     rw [hl] at hrv hcd;have Hrv:=Lib.hid (show Zcx (rs.map (·.1)) p=some v from hrv);clear hrv hdk hl;go_wp2_with (go_at_call 374;refine(hcd _).mono ?_;rintro e w1 ⟨z,rfl,hz2,hb1⟩;obtain rfl:=hz2 v rfl)
     go_ret2
     rw [Hrv.out];exact⟨rfl,hb.trans ((Zd hb1).mono (by omega))⟩
  · obtain rfl:k=rs.length:=by omega
    rw [List.drop_length] at hrv;have Hrv:=Lib.hid (show Zcx (rs.map (·.1)) p=none from hrv);clear hrv;go_wp2_with fail
    go_ret2
    rw [Hrv.out];exact⟨rfl,hb⟩
theorem Zsd:(Tryz.prog.info? 259).map (fun i=>(i.zero,i.size,i.bytes))=some (some (.agg #[.int .i64 0,.int .i32 0]),2,16):=by kernel_rfl
def prV (x:Pr):List Value:=[.int .i64 (x.1:Int),.int .i32 x.2]
def Zbz (rs:List (Rw×Sl))(k:Nat):List Pr:=((rs.take k).map (·.1)).flatMap prs
theorem ZtX (rs:List (Rw×Sl))(k:Nat):(Zbz rs k).length=szR (rs.take k):=ZeK _
theorem Znk (rs:List (Rw×Sl))(k:Nat)(x:Rw×Sl)(h:rs[k]? =some x):Zbz rs (k+1)=Zbz rs k++prs x.1:=by
 unfold Zbz;rw [List.take_add_one,h];simp
theorem Zsq (r:Rw)(j:Nat)(h:j<r.2.1):(prs r).take (j+1)=(prs r).take j++[(r.1+j,ZO r j)]:=by
 have:(prs r)[j]? =some (r.1+j,ZO r j):=by
  unfold prs;rw [List.getElem?_map,List.getElem?_range h];rfl
 rw [List.take_add_one,this];rfl
def PaRel (rs:List (Rw×Sl))(w0:World)(v i:Value)(wr:World):Prop:=∃k:Nat,k≤rs.length∧i= .int .i64 k∧wr.ownsRow w0.heap.size 259 2 v (Zbz rs k).length ((Zbz rs k).flatMap prV)∧Below w0.heap.size w0 wr
def PiRel (L:List Pr)(x:Rw×Sl)(B5:Nat)(w0:World)(v c:Value)(wr:World):Prop:=∃j:Nat,j≤x.1.2.1∧c= .int .i64 ((x.1.1+j:Nat):Int)∧wr.ownsRow w0.heap.size 259 2 v (L++(prs x.1).take j).length ((L++(prs x.1).take j).flatMap prV)∧
 wr.heap[B5]? =some (.cells #[.int .i64 (x.1.1:Int),.int .i64 (x.1.2.1:Int),.int .i32 x.1.2.2.1,.slice x.2.1 x.2.2.1 x.2.2.2] 316 (0,0))∧Below w0.heap.size w0 wr
def ZgK (L:List Pr)(w0:World)(e:Ending)(w':World):Prop:=∃A c,e= .returned (.slice A L.length c)∧L.length≤c∧Reads w' w'.heap.size 2 A L.length (L.flatMap prV)∧Below w0.heap.size w0 w'
theorem ZtL (w:World)(a b:Value)(T:TypeId):∀j u,[a,b][j]? =some u→(w.alloc (.cells #[a,b] T)).cell? ((⟨w.heap.size,0,none⟩:Addr).add j)=some u:=by
 intro j u hu;rw [addr_eq rfl];show(w.alloc _).cell? ⟨w.heap.size,0+j,none⟩=_
 rw [Nat.zero_add,cell_of_row _ w.heap.size j _ T (0,0) (heap_alloc_new w _)];simpa using hu
def Zji (L:List Pr)(w0:World)(e:Ending)(w':World):Prop:=∃v,e= .returned v∧w'.ownsRow w0.heap.size 259 2 v L.length (L.flatMap prV)∧Below w0.heap.size w0 w'
theorem ZoH (A:Option Addr)(c:Nat)(rs:List (Rw×Sl))(hn:rs.length≤35184372089000)(w:World)(h:TbR w w.heap.size A rs):
 Calls Tryz.prog 194 #[.agg #[.slice A rs.length c]] w (Zji ((rs.map (·.1)).flatMap prs) w):=by
 have htot:=h.total;have hszs:=fun o=>Zjx A c rs hn (w.alloc o) ((h.below ((Below.refl _ _).alloc (Nat.le_refl _) o)).more (by simp));obtain⟨i0,hi,iz0,iz1,iz2⟩:=info_parts Zsd;have hall:Zbz rs rs.length=(rs.map (·.1)).flatMap prs:=by unfold Zbz;rw [List.take_length]
 generalize hP:Zji ((rs.map (·.1)).flatMap prs) w=P at*;go_enter Tryz.func194,Tryz.ntmps194
 go_wp2_with (first|(go_at_call 254;refine(hszs _).mono ?_;rintro e w1 ⟨rfl,hb1⟩;have HB1:=Zd hb1;have hz1:=Za3 hb1;have q1:=Zo (heap_alloc_new w (.cells #[.slice A rs.length c] 196)) hb1;have q2:=cell_of_row _ _ 0 _ _ _ q1;simp at q2)|(at_make;refine wpList_make_own _ rfl _ _ 256 rfl w.heap.size 259 i0 (.agg #[.int .i64 0,.int .i32 0]) 2 Tryz.underlying256 hi iz0 iz1 .i64 .i64 _ (szR rs) rfl rfl rfl (by rw [iz2];omega) (by unfold maxLen;omega) (by omega) ?_;intro w3 hown hgrow;have hz3:=hgrow.size;have q3:=(hgrow.block w.heap.size (by omega) (by simp)).trans q1;have q4:=cell_of_row _ _ 0 _ _ _ q3;simp at q4;have HB3:=HB1.grown hgrow (by omega) (fun k hk=>by cases hk)))
 clear q1 q2 q3 q4 hszs hb1 hgrow;go_loopw [3,13] (fun v i wr=>PaRel rs w v i wr) (fun _ i _=>rs.length - (intOf i).toNat)
 case atStart=>exact⟨0,by omega,rfl,hown,HB3⟩
 case round=>
  obtain⟨k,hk,rfl,ho,hb⟩:=hrel;have hz:=hb.size;by_cases hlt:k<rs.length
  · obtain⟨x,hx⟩:∃x,rs[k]? =some x:=⟨_,List.getElem?_eq_getElem hlt⟩
    obtain⟨ad,rfl,hadb,y0,y1,y2,y3,hok,hsg,_⟩:=(h.below hb).row hx;have hsn:=Znk rs k x hx;have hlen:(Zbz rs k).length+x.1.2.1≤1048576:=by
     have:=congrArg List.length hsn;rw [List.length_append,Zf1,ZtX rs (k+1)] at this;have:=Znd rs (k+1);omega
    have Ho:=Lib.hid ho;have Hsn:=Lib.hid hsn;clear ho hsn;go_wp2_with fail
    clear hall;have hsgw:=(h.2.1 x (List.mem_of_getElem? hx)).2;have hend:=fun v W=>Zch x.1.1 x.1.2.1 x.1.2.2.1 v hok.2.1 W;have ok1:=hok.1;have ok2:=hok.2.1;clear y0 y1 y2 y3;go_loopw [3,6] (fun v c2 wr2=>PiRel (Zbz rs k) x wr.heap.size w v c2 wr2) (fun _ c2 _=>x.1.1+x.1.2.1 - (intOf c2).toNat)
    case atStart=>exact⟨0,by omega,by simp,by simpa using Ho.out.alloc _,heap_alloc_new wr _,hb.alloc (by omega) _⟩
    case round=>
     obtain⟨j,hj,rfl,ho2,h5,hb2⟩:=hrel;have hz2:=hb2.size;have y0:=cell_of_row _ _ 0 _ _ _ h5;have y1:=cell_of_row _ _ 1 _ _ _ h5;have y2:=cell_of_row _ _ 2 _ _ _ h5;have y3:=cell_of_row _ _ 3 _ _ _ h5;simp at y0 y1 y2 y3;have Ho2:=Lib.hid ho2;have H5:=Lib.hid h5;have hl5:=(Array.getElem?_eq_some_iff.1 h5).1;by_cases hjn:j<x.1.2.1
     · have hln:(Zbz rs k++(prs x.1).take j).length=(Zbz rs k).length+j:=by rw [List.length_append,List.length_take,Zf1];omega
       have hsi:=fun W (hB:Below w.heap.size w W)=>ZgM x (x.1.1+j) hok ⟨by omega,by omega⟩ W ((hsgw.below hB).more hB.size);unfold rV slV at hsi;rw [show x.1.1+j - x.1.1=j by omega] at hsi;have Hln:=Lib.hid hln;have hnx:=Zsq x.1 j hjn;have Hnx:=Lib.hid hnx;generalize ZO x.1 j=sg at*;clear ho2 h5 hln hnx;go_wp2_with (first|(go_at_call 255;refine(hend _ _).mono ?_;rintro e w4 ⟨rfl,hb4⟩;have hz4:=hb4.size;have HB4:=hb2.trans (hb4.mono (by omega));have HO4:=Lib.hid (ZE Ho2.out hb4);have H54:=Lib.hid (Zo H5.out hb4);have z0:=(cell_of_row _ _ 0 _ _ _ H54.out);have z1:=(cell_of_row _ _ 1 _ _ _ H54.out);have z2:=(cell_of_row _ _ 2 _ _ _ H54.out);have z3:=(cell_of_row _ _ 3 _ _ _ H54.out);simp at z0 z1 z2 z3)|(go_at_call 256;refine(hsi _ HB4).mono ?_;rintro e w5 ⟨rfl,hb5⟩;have hz5:=hb5.size;have HB5:=HB4.trans (hb5.mono (by omega));have HO5:=Lib.hid (ZE HO4.out hb5);have H55:=Lib.hid (Zo H54.out hb5))|(at_builtin;refine wpList_append_own _ rfl _ _ 256 rfl w.heap.size 259 i0 _ 2 16 Tryz.underlying256 hi iz0 iz1 iz2 rfl (by decide) _ _ _ rfl (HO5.out.alloc _) ⟨w5.heap.size,0,none⟩ 1 1 [.int .i64 ((x.1.1:Int)+j),.int .i32 sg] rfl rfl ?d1 ?d2 ?d3 ?d4 ?d5 ?_))
       case d1=>exact ZtL w5 _ _ _
       case d2=>intro u hu;simp only [List.mem_cons,List.not_mem_nil,or_false] at hu;rcases hu with rfl|rfl<;>rfl
       case d3=>have:=Hln.out;unfold maxLen;omega
       case d4=>have:=Hln.out;omega
       case d5=>simp;omega
       intro v6 w6 hown6 hg6 h06;have HB6:=Zad (HB5.alloc (by omega) (.cells #[.int .i64 ((x.1.1:Int)+j),.int .i32 sg] 259)) (HO5.out.alloc _) hg6 (by simp;omega) (Nat.le_refl _);have hl6:=(Array.getElem?_eq_some_iff.1 H55.out).1;have h55:=(Below.heap_alloc w5 (.cells #[.int .i64 ((x.1.1:Int)+j),.int .i32 sg] 259) _ hl6).trans H55.out;have H56:=Lib.hid ((hg6.block _ (by simp;omega) (ZfC (HO5.out.alloc _) h55 (by decide))).trans h55);clear h55;have Hown6:=Lib.hid hown6;clear hown6 hg6 h06;go_wp2_with fail
       refine⟨⟨j+1,by omega,by simp;omega,?_,H56.out,HB6⟩,by simp [intOf];omega⟩;have:=Hown6.out;rw [Hnx.out,←List.append_assoc,List.flatMap_append,List.length_append];simpa [prV] using this
     · obtain rfl:j=x.1.2.1:=by omega
       rw [List.take_of_length_le (by rw [Zf1];omega),←Hsn.out] at ho2;have Ho3:=Lib.hid ho2;clear ho2 h5;go_wp2_with (go_at_call 255;refine(hend _ _).mono ?_;rintro e w4 ⟨rfl,hb4⟩;have hz4:=hb4.size;have HB4:=hb2.trans (hb4.mono (by omega));have H54:=Lib.hid (Zo H5.out hb4);have z0:=(cell_of_row _ _ 0 _ _ _ H54.out);have z1:=(cell_of_row _ _ 1 _ _ _ H54.out);have z2:=(cell_of_row _ _ 2 _ _ _ H54.out);have z3:=(cell_of_row _ _ 3 _ _ _ H54.out);simp at z0 z1 z2 z3)
       refine⟨⟨k+1,by omega,by simp,ZE Ho3.out hb4,HB4⟩,by simp [intOf];omega⟩
  · obtain rfl:k=rs.length:=by omega
    rw [hall] at ho;obtain⟨A3,c3,rfl,hc3,hr3⟩:=Reads.of_own ho;have Hr3:=Lib.hid ho;clear ho hr3;go_wp2_with fail
    show P (.returned (.slice A3 ((rs.map (·.1)).flatMap prs).length c3)) wr
    rw [←hP];exact⟨_,rfl,Hr3.out,hb⟩
theorem Zjf (A:Option Addr)(c:Nat)(rs:List (Rw×Sl))(hn:rs.length≤35184372089000)(w:World)(h:TbR w w.heap.size A rs):
 Calls Tryz.prog 194 #[.agg #[.slice A rs.length c]] w (ZgK ((rs.map (·.1)).flatMap prs) w):=
 (ZoH A c rs hn w h).mono fun e w' ⟨v,h1,h2,h3⟩=>by
  obtain⟨A3,c3,rfl,h4,h5⟩:=Reads.of_own h2;exact⟨A3,c3,h1,h4,h5,h3⟩
theorem bch {w w1 w2:World} (h1:Below w.heap.size w w1)(h2:Below w1.heap.size w1 w2):Below w.heap.size w w2:=h1.trans (h2.mono h1.size)
def Capt (W:World)(b3 b2:Nat)(code:Int)(A:Option Addr)(n c:Nat):Prop:=W.cell? ⟨b3,0,none⟩=some (.int .i64 code)∧W.cell? ⟨b2,0,none⟩=some (.slice A n c)
def FwS (W:World)(b3 b2:Nat)(code:Int)(ad:Addr)(n c k:Nat)(x:Rw×Sl)(W':World):Prop:=(W'.cell? ⟨b3,0,none⟩=some (.int .i64 code)∧W'.cell? ⟨b2,0,none⟩=some (.slice (some ad) n c)∧W'.cell? (ad.add (k*4))=some (.int .i64 (x.1.1:Int))∧W'.cell? ⟨(ad.add (k*4)).block,(ad.add (k*4)).off+1,none⟩=some (.int .i64 (x.1.2.1:Int))∧
 W'.cell? ⟨(ad.add (k*4)).block,(ad.add (k*4)).off+2,none⟩=some (.int .i32 x.1.2.2.1)∧W'.cell? ⟨(ad.add (k*4)).block,(ad.add (k*4)).off+3,none⟩=some (.slice x.2.1 x.2.2.1 x.2.2.2))∧Below W.heap.size W W'
theorem FwS.keep {W:World} {b3 b2:Nat} {code:Int} {ad:Addr} {n c k:Nat} {x:Rw×Sl} {W' W'':World} (h:FwS W b3 b2 code ad n c k x W')(hb:Below W'.heap.size W' W''):FwS W b3 b2 code ad n c k x W'':=by
 obtain⟨⟨h1,h2,h3,h4,h5,h6⟩,h7⟩:=h;have hk:∀{a:Addr} {v:Value},W'.cell? a=some v→W''.cell? a=some v:=fun{a v} e=>(hb.cell (World.block_lt_of_cell? _ _ e)).trans e;exact⟨⟨hk h1,hk h2,hk h3,hk h4,hk h5,hk h6⟩,bch h7 hb⟩
theorem Zof (b3 b2:Nat)(code:Int)(A:Option Addr)(c:Nat)(rs:List (Rw×Sl))(B k:Nat)(x:Rw×Sl)(W:World)(hc:Capt W b3 b2 code A rs.length c)(h:TbR W B A rs)(hk:rs[k]? =some x):
 Calls Tryz.prog 376 #[.int .i64 (k:Int),.pointer (some ⟨b3,0,none⟩),.pointer (some ⟨b2,0,none⟩)] W fun e w'=>e= .returned (.bool (decide (code<(x.1.1:Int)+x.1.2.1)))∧Below W.heap.size W w':=by
 obtain⟨c3,c2⟩:=hc;have hlt:k<rs.length:=by
  rcases Nat.lt_or_ge k rs.length with h|h
  · exact h
  · rw [List.getElem?_eq_none h] at hk;cases hk
 obtain⟨ad,rfl,hadb,y0,y1,y2,y3,hok,_,_⟩:=h.row hk;have hend:=fun v W=>Zch x.1.1 x.1.2.1 x.1.2.2.1 v hok.2.1 W;go_enter Tryz.func376,Tryz.ntmps376
 go_wp2_with fail
 have hS0:FwS W b3 b2 code ad rs.length c k x W.drew:=⟨⟨c3,c2,y0,y1,y2,y3⟩,(Below.refl _ _).drew⟩
 refine ZcX (FwS W b3 b2 code ad rs.length c k x) [(0,true),(1,true),(2,true),(3,true),(4,true),(5,true),(6,false),(7,true),(8,true)] (by kernel_rfl) (by kernel_rfl) (by kernel_rfl) (Nat.le_of_ble_eq_true rfl) (fun _ _ d _ _ h=>by cases d<;>exact h) hS0 ?_
 repeat (first
  |(refine ZhG rfl (by rfl) ?_;try simp only [Act.put,List.setIfInBounds_toArray,List.set_cons_zero,List.set_cons_succ])
  |(refine' Zaj rfl (by rfl) _ (fun w' hSw=>_) _;rotate_left;(obtain⟨⟨s1,s2,s3,s4,s5,s6⟩,_⟩:=hSw;go_simp;try with_reducible rfl);try simp only [Act.put,List.setIfInBounds_toArray,List.set_cons_zero,List.set_cons_succ])
  |(refine ZaM rfl (by rfl) (fun K hK=> ?_);go_simp;(go_at_call 255;refine(hend _ _).mono ?_;rintro e w4 ⟨rfl,hb4⟩);go_wp2_with fail;have hS4:=hS0.keep hb4;refine hK.out _ _ hS4 ?_;clear hK K;try simp only [Act.put,List.setIfInBounds_toArray,List.set_cons_zero,List.set_cons_succ]))
 refine ZcK ?_;go_wp2_with fail
 go_ret
 exact⟨rfl,hS4.2⟩
def ZaJ (rs:List (Rw×Sl))(code:Int)(k:Nat):Bool:=match rs[k]? with
 |none=>true
 |some x=>decide (code<(x.1.1:Int)+x.1.2.1)
theorem ZqJ {w:World} {B:Nat} {A:Option Addr} {rs:List (Rw×Sl)} (h:TbR w B A rs){code:Int} {a b:Nat} (hab:a≤b)(ha:ZaJ rs code a=true):ZaJ rs code b=true:=by
 unfold ZaJ at*;cases hb:rs[b]? with
 |none=>rfl
 |some y=>
  have hlt:=(List.getElem?_eq_some_iff.1 hb).1;have hx:rs[a]? =some rs[a]:=List.getElem?_eq_getElem (by omega);rw [hx] at ha;simp only [decide_eq_true_eq] at ha⊢;rcases Nat.lt_or_ge a b with h1|h1
  · have hp:=h.2.2.1;rw [List.pairwise_map,List.pairwise_iff_getElem] at hp;have:=hp a b (by omega) hlt h1;rw [List.getElem?_eq_getElem hlt] at hb;injection hb with hb
    subst hb;omega
  · obtain rfl:a=b:=by omega
    rw [hb] at hx;injection hx with hx
    rw [←hx] at ha;exact ha
def ShRel (rs:List (Rw×Sl))(code:Int)(w0:World)(i j:Value)(wr:World):Prop:=∃lo hi:Nat,lo≤hi∧hi≤rs.length∧i= .int .i64 lo∧j= .int .i64 hi∧(∀k,k<lo→ZaJ rs code k=false)∧ZaJ rs code hi=true∧Below w0.heap.size w0 wr
theorem Zo5 (b3 b2:Nat)(code:Int)(A:Option Addr)(c:Nat)(rs:List (Rw×Sl))(hn:rs.length≤35184372089000)(W:World)(hc:Capt W b3 b2 code A rs.length c)(h:TbR W W.heap.size A rs):
 Calls Tryz.prog 375 #[.int .i64 rs.length,.func (.func 376) #[] #[.pointer (some ⟨b3,0,none⟩),.pointer (some ⟨b2,0,none⟩)]] W fun e w'=>∃k:Nat,e= .returned (.int .i64 k)∧k≤rs.length∧(∀j,j<k→ZaJ rs code j=false)∧ZaJ rs code k=true∧Below W.heap.size W w':=by
 have hend:ZaJ rs code rs.length=true:=by unfold ZaJ;rw [List.getElem?_eq_none (Nat.le_refl _)]
 go_enter Tryz.func375,Tryz.ntmps375
 go_wp2_with fail
 go_loopw [5,6] (fun i j wr=>ShRel rs code W i j wr) (fun i j _=>(intOf j).toNat - (intOf i).toNat)
 case atStart=>exact⟨0,rs.length,by omega,Nat.le_refl _,rfl,rfl,(fun k hk=>by omega),hend,Below.refl _ _⟩
 case round=>
  obtain⟨lo,hi,h1,h2,rfl,rfl,h3,h4,hb⟩:=hrel;have H3:=Lib.hid h3;have H4:=Lib.hid h4;clear h3 h4 hend;by_cases hlt:lo<hi
  · have hmid:(lo+hi) / 2<hi∧lo≤(lo+hi) / 2:=by omega
    obtain⟨m,hm⟩:∃m,m=(lo+hi) / 2:=⟨_,rfl⟩
    rw [←hm] at hmid;obtain⟨x,hx⟩:∃x,rs[m]? =some x:=⟨_,List.getElem?_eq_getElem (by omega)⟩
    have hmi:((lo:Int)+hi) / 2=(m:Int):=by omega
    have hcw:Capt wr b3 b2 code A rs.length c:=⟨(hb.cell (World.block_lt_of_cell? _ _ hc.1)).trans hc.1,(hb.cell (World.block_lt_of_cell? _ _ hc.2)).trans hc.2⟩
    have hfw:=Zof b3 b2 code A c rs W.heap.size m x wr hcw (h.below hb) hx;have hE:ZaJ rs code m=decide (code<(x.1.1:Int)+x.1.2.1):=by unfold ZaJ;rw [hx]
    rw [←hE] at hfw;have hz:=hb.size;clear hm;cases hq:ZaJ rs code m with
    |true=>
     rw [hq] at hfw;have Hq:=Lib.hid hq;clear hq hE;go_wp2_with (go_at_call 376;refine hfw.mono ?_;rintro e w1 ⟨rfl,hb1⟩)
     go_roundw
     case rel=>exact⟨lo,m,by omega,by omega,rfl,rfl,H3.out,Hq.out,bch hb hb1⟩
     case measure=>simp [intOf];omega
    |false=>
     rw [hq] at hfw;have Hq:=Lib.hid hq;clear hq hE;go_wp2_with (go_at_call 376;refine hfw.mono ?_;rintro e w1 ⟨rfl,hb1⟩)
     go_roundw
     case rel=>
      refine⟨m+1,hi,by omega,by omega,by simp,rfl,fun k hk=> ?_,H4.out,bch hb hb1⟩;cases hk2:ZaJ rs code k with
      |false=>rfl
      |true=>
       have:=ZqJ h (a:=k) (b:=m) (by omega) hk2;rw [Hq.out] at this;cases this
     case measure=>simp [intOf];omega
  · obtain rfl:lo=hi:=by omega
    go_wp2_with fail
    go_ret
    exact⟨lo,rfl,h2,H3.out,H4.out,hb⟩
def ZbP (rs:List Rw)(code:Int):Option Int:=((rs.flatMap prs).find? fun x=>decide ((x.1:Int)=code)).map (·.2)
theorem ZkO (code:Int):∀(L:List Pr) (y:Pr),Srt L→y∈L→(y.1:Int)=code→L.find? (fun x=>decide ((x.1:Int)=code))=some y
 |[],y,_,h,_=>by simp at h
 |a::L,y,hs,h,he=>by
  have hs':=List.pairwise_cons.1 hs;rw [List.find?_cons];by_cases ha:(a.1:Int)=code
  · rw [decide_eq_true ha];rcases List.mem_cons.1 h with rfl|h
    · rfl
    · have:=hs'.1 y h;omega
  · rw [decide_eq_false ha];rcases List.mem_cons.1 h with rfl|h
    · exact absurd he ha
    · exact ZkO code L y hs'.2 h he
theorem ZqY {w:World} {B:Nat} {A:Option Addr} {rs:List (Rw×Sl)} (h:TbR w B A rs){x:Rw×Sl} (hx:x∈rs){c:Nat} (h1:x.1.1≤c)(h2:c<x.1.1+x.1.2.1):ZbP (rs.map (·.1)) (c:Int)=some (ZO x.1 (c - x.1.1)):=by
 unfold ZbP;rw [ZkO (c:Int) _ (c,ZO x.1 (c - x.1.1)) (ZdT _ h.2.2.1) (List.mem_flatMap.2 ⟨x.1,List.mem_map_of_mem hx,Za1.2 ⟨h1,h2,rfl⟩⟩) rfl];rfl
theorem ZkX {rs:List (Rw×Sl)} {code:Int} (h:∀x∈rs,code<(x.1.1:Int)∨(x.1.1:Int)+x.1.2.1≤code):ZbP (rs.map (·.1)) code=none:=by
 unfold ZbP;rw [List.find?_eq_none.2]
 · rfl
 intro y hy;obtain⟨r,hr,hyr⟩:=List.mem_flatMap.1 hy;obtain⟨x,hx,rfl⟩:=List.mem_map.1 hr;have h1:=h x hx;have h2:=Za1.1 hyr;simp only [decide_eq_true_eq];omega
def Zc0 (rs:List (Rw×Sl))(code:Int)(w0:World)(e:Ending)(w':World):Prop:=e= .returned (.tuple #[.int .i32 ((ZbP (rs.map (·.1)) code).getD 0),.bool (ZbP (rs.map (·.1)) code).isSome])∧Below w0.heap.size w0 w'
theorem Zoe (A:Option Addr)(c:Nat)(rs:List (Rw×Sl))(code:Int)(hn:rs.length≤35184372089000)(w:World)(h:TbR w w.heap.size A rs):
 Calls Tryz.prog 353 #[.agg #[.slice A rs.length c],.int .i64 code] w (Zc0 rs code w):=by
 have HN:Hid (ZbP (rs.map (·.1)) code=none→∀w',Below w.heap.size w w'→Zc0 rs code w (.returned (.tuple #[.int .i32 0,.bool false])) w'):=Lib.hid fun h w' hb=>by unfold Zc0;rw [h];exact⟨rfl,hb⟩
 have HY:Hid (∀z,ZbP (rs.map (·.1)) code=some z→∀w',Below w.heap.size w w'→Zc0 rs code w (.returned (.tuple #[.int .i32 z,.bool true])) w'):=Lib.hid fun z h w' hb=>by unfold Zc0;rw [h];exact⟨rfl,hb⟩
 generalize Zc0 rs code w=P at*;obtain⟨WB,hWB⟩:∃W,W=(w.alloc (.cells #[.slice A rs.length c] 196)).alloc (.cells #[.int .i64 code] 3):=⟨_,rfl⟩
 have hBW:Below w.heap.size w WB:=by rw [hWB];exact((Below.refl _ w).alloc (Nat.le_refl _) _).alloc (by simp) _
 have hcap:Capt WB (w.heap.size+1) w.heap.size code A rs.length c:=by
  rw [hWB];constructor
  · have:=cell_of_row ((w.alloc (.cells #[.slice A rs.length c] 196)).alloc (.cells #[.int .i64 code] 3)) (w.alloc (.cells #[.slice A rs.length c] 196)).heap.size 0 _ 3 (0,0) (heap_alloc_new _ _);simp only [World.size_alloc] at this;exact this
  · rw [World.cell?_alloc_lt _ _ _ (by simp),cell_of_row _ w.heap.size 0 _ 196 (0,0) (heap_alloc_new w _)];rfl
 have hsr:=Zo5 (w.heap.size+1) w.heap.size code A c rs hn WB hcap ((h.below hBW).more hBW.size);rw [hWB] at hsr;have hzW:WB.heap.size=w.heap.size+2:=by rw [hWB];simp
 go_enter Tryz.func353,Tryz.ntmps353
 go_wp2_with (go_at_call 375;refine hsr.mono ?_;rintro e w1 ⟨k,rfl,hk,hlo,hhi,hb1⟩;rw [←hWB] at hb1;have HB1:=bch hBW hb1;have hk2:Capt w1 (w.heap.size+1) w.heap.size code A rs.length c:=⟨(hb1.cell (World.block_lt_of_cell? _ _ hcap.1)).trans hcap.1,(hb1.cell (World.block_lt_of_cell? _ _ hcap.2)).trans hcap.2⟩;obtain⟨k3,k2⟩:=hk2;have Hlo:=Lib.hid hlo;have Hhi:=Lib.hid hhi;clear hlo hhi)
 have hTB:=h.below HB1;by_cases hkl:k<rs.length
 · obtain⟨x,hx⟩:∃x,rs[k]? =some x:=⟨_,List.getElem?_eq_getElem hkl⟩
   obtain⟨ad,hA,hadb,y0,y1,y2,y3,hok,hsg,hmem⟩:=hTB.row hx;subst hA;have hend:code<(x.1.1:Int)+x.1.2.1:=by
    have:=Hhi.out;unfold ZaJ at this;rw [hx] at this;simpa using this
   have hkd:((k:Int)==(rs.length:Int))=false:=by rw [beq_eq_false_iff_ne];omega
   have ok2:=hok.2.1;by_cases hfr:code<(x.1.1:Int)
   · have hd:decide (code<(x.1.1:Int))=true:=decide_eq_true hfr;have hm:ZbP (rs.map (·.1)) code=none:=ZkX fun y hy=>by
      obtain⟨j,hj,rfl⟩:=List.getElem_of_mem hy;rcases Nat.lt_or_ge j k with h1|h1
      · right
        have:=Hlo.out j h1;unfold ZaJ at this;rw [List.getElem?_eq_getElem hj] at this;simpa using this
      · left
        rcases Nat.lt_or_ge k j with h2|h2
        · have hp:=h.2.2.1;rw [List.pairwise_map,List.pairwise_iff_getElem] at hp;have:=hp k j hkl hj h2;rw [List.getElem?_eq_getElem hkl] at hx;injection hx with hx
          subst hx;omega
        · obtain rfl:j=k:=by omega
          rw [List.getElem?_eq_getElem hkl] at hx;injection hx with hx
          subst hx;exact hfr
     have Hf:=Lib.hid (HN.out hm);clear HN HY hm
     go_quiet (fail)
     go_wp2_with fail
     show P (.returned (.tuple #[.int .i32 0,.bool false])) _
     exact Hf.out _ (below_drewN HB1 _)
   · have hd:decide (code<(x.1.1:Int))=false:=decide_eq_false hfr;obtain⟨cn,rfl⟩:∃n:Nat,code=n:=⟨code.toNat,by omega⟩
     have hm:=ZqY h hmem (c:=cn) (by omega) (by omega);have Hf:=Lib.hid (HY.out _ hm);have hsi:=fun W (hB:Below w.heap.size w W)=>ZgM x cn hok ⟨by omega,by omega⟩ W (((h.2.1 x hmem).2.below hB).more hB.size);unfold rV slV at hsi;generalize ZO x.1 (cn - x.1.1)=sg at*;clear HN HY hm;have hS1:FwS w1 (w.heap.size+1) w.heap.size (cn:Int) ad rs.length c k x w1:=⟨⟨k3,k2,y0,y1,y2,y3⟩,Below.refl _ _⟩
     go_quiet (fail)
     go_wp2_with fail
     have hS2:=hS1.keep (below_drewN (Below.refl w1.heap.size w1) nq);have hS0:FwS w1 (w.heap.size+1) w.heap.size (cn:Int) ad rs.length c k x (w1.drewN nq).drew:=⟨hS2.1,hS2.2.drew⟩
     refine ZcX (FwS w1 (w.heap.size+1) w.heap.size (cn:Int) ad rs.length c k x) [(0,true),(1,true),(2,true),(3,true),(4,true),(5,true),(6,false),(7,true),(8,true)] (by kernel_rfl) (by kernel_rfl) (by kernel_rfl) (Nat.le_of_ble_eq_true rfl) (fun _ _ d _ _ h=>by cases d<;>exact h) hS0 ?_
     repeat (first
      |(refine ZhG rfl (by rfl) ?_;try simp only [Act.put,List.setIfInBounds_toArray,List.set_cons_zero,List.set_cons_succ])
      |(refine' Zaj rfl (by rfl) _ (fun w' hSw=>_) _;rotate_left;(obtain⟨⟨s1,s2,s3,s4,s5,s6⟩,_⟩:=hSw;go_simp;try with_reducible rfl);try simp only [Act.put,List.setIfInBounds_toArray,List.set_cons_zero,List.set_cons_succ])
      |(refine ZaM rfl (by rfl) (fun K hK=> ?_);go_simp;(go_at_call 256;refine(hsi _ (bch HB1 hS0.2)).mono ?_;rintro e w4 ⟨rfl,hb4⟩);go_wp2_with fail;have hS4:=hS0.keep hb4;refine hK.out _ _ hS4 ?_;clear hK K;try simp only [Act.put,List.setIfInBounds_toArray,List.set_cons_zero,List.set_cons_succ]))
     refine ZcK ?_;go_wp2_with fail
     show P (.returned (.tuple #[.int .i32 sg,.bool true])) _
     exact Hf.out _ (bch HB1 hS4.2)
 · obtain rfl:k=rs.length:=by omega
   have hkd:((rs.length:Int)==(rs.length:Int))=true:=by simp
   have hm:ZbP (rs.map (·.1)) code=none:=ZkX fun y hy=>by
    obtain⟨j,hj,rfl⟩:=List.getElem_of_mem hy
    right
    have:=Hlo.out j hj;unfold ZaJ at this;rw [List.getElem?_eq_getElem hj] at this;simpa using this
   have Hf:=Lib.hid (HN.out hm);clear HN HY hm
   go_quiet (fail)
   go_wp2_with fail
   show P (.returned (.tuple #[.int .i32 0,.bool false])) _
   exact Hf.out _ (below_drewN HB1 _)
def Zk (rs:List (Rw×Sl)):List Pr:=(rs.map (·.1)).flatMap prs
theorem Zer {rs:List (Rw×Sl)} {y:Pr}:y∈Zk rs↔∃x∈rs,y∈prs x.1:=by
 unfold Zk;rw [List.mem_flatMap];constructor
 · rintro⟨r,hr,hy⟩;obtain⟨x,hx,rfl⟩:=List.mem_map.1 hr;exact⟨x,hx,hy⟩
 · rintro⟨x,hx,hy⟩;exact⟨x.1,List.mem_map_of_mem hx,hy⟩
theorem hasT {rs:List (Rw×Sl)} {c:Nat}:ZZ (Zk rs) c=true↔∃x∈rs,x.1.1≤c∧c<x.1.1+x.1.2.1:=by
 rw [Zep];constructor
 · rintro⟨y,hy,rfl⟩;obtain⟨x,hx,h⟩:=Zer.1 hy;have:=Za1.1 h;exact⟨x,hx,this.1,this.2.1⟩
 · rintro⟨x,hx,h1,h2⟩;exact⟨(c,ZO x.1 (c - x.1.1)),Zer.2 ⟨x,hx,Za1.2 ⟨h1,h2,rfl⟩⟩,rfl⟩
def Zao (ts:List (Rw×Sl))(done:Pr→Prop)(ps:List (Rw×Sl))(cur:Nat):Prop:=
 (∀y,(∃x∈ps,y∈prs x.1)↔done y∧ZZ (Zk ts) y.1=false)∧((ps.map (·.1)).Pairwise fun a b=>a.1+a.2.1≤b.1)∧(∀x∈ps,x.1.1+x.1.2.1≤cur)∧∀x∈ps,Zap x.1
section
variable {ts ps:List (Rw×Sl)} {done:Pr→Prop} {cur:Nat}
theorem Zao.mem (h:Zao ts done ps cur):∀y,(∃x∈ps,y∈prs x.1)↔done y∧ZZ (Zk ts) y.1=false:=h.1
theorem Zao.asc (h:Zao ts done ps cur):(ps.map (·.1)).Pairwise fun a b=>a.1+a.2.1≤b.1:=h.2.1
theorem Zao.le (h:Zao ts done ps cur):∀x∈ps,x.1.1+x.1.2.1≤cur:=h.2.2.1
theorem Zao.ok (h:Zao ts done ps cur):∀x∈ps,Zap x.1:=h.2.2.2
end
theorem ov_nil (ts:List (Rw×Sl))(cur:Nat):Zao ts (fun _=>False) [] cur:=⟨by simp,by simp,by simp,by simp⟩
theorem Zao.more {ts:List (Rw×Sl)} {d d':Pr→Prop} {ps:List (Rw×Sl)} {cur cur':Nat} (h:Zao ts d ps cur)(hd:∀y,ZZ (Zk ts) y.1=false→(d y↔d' y))(hc:cur≤cur'):Zao ts d' ps cur':=
 ⟨fun y=>by rw [h.mem];constructor<;>(rintro⟨a,b⟩;exact⟨by first|exact(hd y b).1 a|exact(hd y b).2 a,b⟩),h.asc,fun x hx=>Nat.le_trans (h.le x hx) hc,h.ok⟩
theorem Zao.part {ts:List (Rw×Sl)} {d:Pr→Prop} {ps:List (Rw×Sl)} {a b:Nat} {r:Rw} {q:Sl} (h:Zao ts d ps a)(hr:Zap r)(h1:r.1≤a)(h2:a<b)(h3:b≤r.1+r.2.1)(hn:∀c,a≤c→c<b→ZZ (Zk ts) c=false):
 Zao ts (fun y=>d y∨(y∈prs r∧a≤y.1∧y.1<b)) (ps++[(Zy r a b,q)]) b:=by
 refine⟨fun y=> ?_,?_,fun x hx=> ?_,fun x hx=> ?_⟩
 · constructor
   · rintro⟨x,hx,hy⟩;rcases List.mem_append.1 hx with hx|hx
     · have:=(h.mem y).1 ⟨x,hx,hy⟩;exact⟨.inl this.1,this.2⟩
     · simp only [List.mem_singleton] at hx;subst hx;have:=(Zmf h1 h3).1 hy;exact⟨.inr ⟨this.2.2,this.1,this.2.1⟩,hn _ this.1 this.2.1⟩
   · rintro⟨hy|⟨hy,h4,h5⟩,hc⟩
     · obtain⟨x,hx,hyx⟩:=(h.mem y).2 ⟨hy,hc⟩;exact⟨x,by simp [hx],hyx⟩
     · exact⟨_,List.mem_append_right _ (List.mem_singleton.2 rfl),(Zmf h1 h3).2 ⟨h4,h5,hy⟩⟩
 · rw [List.map_append,List.pairwise_append];refine⟨h.asc,by simp,fun x hx y hy=> ?_⟩;simp only [List.map_cons,List.map_nil,List.mem_singleton] at hy;subst hy;obtain⟨z,hz,rfl⟩:=List.mem_map.1 hx;exact h.le z hz
 · rcases List.mem_append.1 hx with hx|hx
   · have:=h.le x hx;omega
   · simp only [List.mem_singleton] at hx;subst hx;show a+(b - a)≤b
     omega
 · rcases List.mem_append.1 hx with hx|hx
   · exact h.ok x hx
   · simp only [List.mem_singleton] at hx;subst hx;exact ZfV hr h1 h2 h3
theorem ov_end {ts os ps rs:List (Rw×Sl)} {cur:Nat} (ht:Zc2 (ts.map (·.1)))(ho:Zc2 (os.map (·.1)))(h:Zao ts (fun y=>y∈Zk os) ps cur)(hp:rs.Perm (ts++ps))(hs:rs.Pairwise fun a b=>a.1.1≤b.1.1):
 Zc2 (rs.map (·.1))∧Zk rs=ZcO (Zk ts) (Zk os):=by
 have hok:∀x∈rs,Zap x.1:=fun x hx=>by
  rcases List.mem_append.1 (hp.mem_iff.1 hx) with h1|h1
  · exact ht.2 _ (List.mem_map_of_mem h1)
  · exact h.ok x h1
 have hap:((ts++ps).map (·.1)).Pairwise ZbZ:=by
  rw [List.map_append,List.pairwise_append];refine⟨ht.1.imp fun h=> .inl h,h.asc.imp fun h=> .inl h,fun a ha b hb=> ?_⟩;obtain⟨x,hx,rfl⟩:=List.mem_map.1 ha;obtain⟨y,hy,rfl⟩:=List.mem_map.1 hb;have hx1:=(ht.2 _ (List.mem_map_of_mem (f:=(·.1)) hx)).1;have hy1:=(h.ok y hy).1;unfold ZbZ;rcases Nat.lt_or_ge (max x.1.1 y.1.1) (x.1.1+x.1.2.1) with h1|h1
  · rcases Nat.lt_or_ge (max x.1.1 y.1.1) (y.1.1+y.1.2.1) with h2|h2
    · have:=((h.mem (max x.1.1 y.1.1,ZO y.1 (max x.1.1 y.1.1 - y.1.1))).1 ⟨y,hy,Za1.2 ⟨by simp;omega,by simp;omega,rfl⟩⟩).2;have h3:ZZ (Zk ts) (max x.1.1 y.1.1)=true:=hasT.2 ⟨x,hx,by omega,h1⟩;simp only at this;rw [h3] at this;cases this
    · omega
  · omega
 have hap2:(rs.map (·.1)).Pairwise ZbZ:=by
  refine((hp.map _).pairwise_iff ?_).2 hap;intro a b h;unfold ZbZ at*;omega
 have hasc:(rs.map (·.1)).Pairwise fun a b=>a.1+a.2.1≤b.1:=by
  have hs2:(rs.map (·.1)).Pairwise fun a b=>a.1≤b.1:=by rw [List.pairwise_map];exact hs
  refine(hs2.and hap2).imp_of_mem ?_;intro a b hma hmb h;obtain⟨h1,h2⟩:=h;obtain⟨x,hx,rfl⟩:=List.mem_map.1 hmb;have:=(hok x hx).1;unfold ZbZ at h2;omega
 have hro:Zc2 (rs.map (·.1)):=⟨hasc,fun r hr=>by obtain⟨x,hx,rfl⟩:=List.mem_map.1 hr;exact hok x hx⟩
 refine⟨hro,Zr8 (ZdT _ ht.1) (ZdT _ ho.1) (ZdT _ hasc) fun y=> ?_⟩;rw [show y∈Zk rs↔∃x∈rs,y∈prs x.1 from Zer];constructor
 · rintro⟨x,hx,hy⟩;rcases List.mem_append.1 (hp.mem_iff.1 hx) with h1|h1
   · exact .inl (Zer.2 ⟨x,h1,hy⟩)
   · exact .inr ((h.mem y).1 ⟨x,h1,hy⟩)
 · rintro(h1|h1)
   · obtain⟨x,hx,hy⟩:=Zer.1 h1;exact⟨x,hp.mem_iff.2 (List.mem_append_left _ hx),hy⟩
   · obtain⟨x,hx,hy⟩:=(h.mem y).2 h1;exact⟨x,hp.mem_iff.2 (List.mem_append_right _ hx),hy⟩
theorem ZnW (A:Option Addr)(c:Nat)(ts:List (Rw×Sl))(hn:ts.length≤10000000)(B:Nat)(w:World)(h:Zb2 w B A ts):
 Calls Tryz.prog 305 #[.slice A ts.length c] w fun e w'=>∃v,e= .returned v∧w'.ownsRow w.heap.size 316 4 v ts.length (ts.flatMap rV)∧Below w.heap.size w w':=by
 obtain⟨i0,hi,iz0,iz1,iz2⟩:=info_parts Zh8;cases A with
 |none=>
  have h0:ts=[]:=by
   rcases Nat.eq_zero_or_pos ts.length with h1|h1
   · exact List.eq_nil_of_length_eq_zero h1
   · obtain⟨ad,hA,_⟩:=h.1.2 h1;cases hA
  subst h0;have:=AnyE.slices_Clone_nil Tryz.laysClone 0 c w;change Calls Tryz.prog 305 _ _ _ at this
  refine this.mono ?_;rintro e w' ⟨rfl,rfl⟩;exact⟨_,rfl,World.ownsRow_nil _ _ _ _,Below.refl _ _⟩
 |some ad=>
  obtain⟨bk,off,sp⟩:=ad;obtain rfl:sp=none:=h.2 _ rfl;have hl:=Zek rV Zdj ts;have hc:∀j u,(ts.flatMap rV)[j]? =some u→w.cell? ⟨bk,off+j,none⟩=some u:=fun j u hu=>by
   have hj:0<ts.length:=by
    rcases Nat.eq_zero_or_pos ts.length with h1|h1
    · rw [List.getElem?_eq_none (by omega)] at hu;cases hu
    · exact h1
   obtain⟨ad,hA,_,hc⟩:=h.1.2 hj;injection hA with hA
   subst hA;have:=hc j u hu
   rwa [addr_eq rfl] at this
  have:=AnyE.slices_Clone Tryz.laysClone i0 _ 4 48 hi iz0 iz1 iz2 rfl (by decide) Tryz.sizeOf316 bk off ts.length c (ts.flatMap rV) w hl (by unfold maxLen;omega) (by omega) hc (fun u hu=>by
   obtain⟨x,_,hx⟩:=List.mem_flatMap.1 hu;exact Zmu x u hx)
  change Calls Tryz.prog 305 _ _ _ at this
  refine this.mono ?_;rintro e w' ⟨v,rfl,h1,_,h3⟩;exact⟨v,rfl,h1,h3⟩
section
variable {P:Program}
theorem ZjM (w:World)(base:Nat)(t ty e:TypeId)(i:TypeInfo)(z:Value)(size bytes:Nat)(ht:P.underlying t=some (.slice e))(hi:P.info? e=some i)(hz:i.zero=some z)(hsize:i.size=size)(hby:i.bytes=bytes)(hzs:z.cells.size=size)(hsz:0<size)
 (v:Value) (n:Nat) (xs:List Value) (hown:w.ownsRow base e size v n xs) (ad:Addr) (m c:Nat) (news:List Value) (hl:news.length=m*size) (hnews:∀j u,news[j]? =some u→w.cell? (ad.add j)=some u) (h1:∀u∈news,u.oneCell'=true)
 (h63:n+m≤maxLen) (hbytes:(n+m)*bytes≤140737488355328) (hbase:base≤w.heap.size):
 ∃v' w',(Builtin.append_ #[t,t] ty #[v,.slice (some ad) m c]).run P w= .ok v' w'∧w'.ownsRow base e size v' (n+m) (xs++news)∧w.grownBy w' v.ownBlock∧(v'.ownBlock=v.ownBlock∨v'.ownBlock=some w.heap.size):=by
 obtain⟨v',w',hr,h2,h3,h4⟩:=run_append_own (P:=P) w base t ty e i z size bytes ht hi hz hsize hby hzs hsz v n xs hown ad m c news hl hnews h1 h63 hbytes hbase;refine⟨v',w',hr,h2,h3,?_⟩;subst hsize;subst hby;have hml:n+m≤9223372036854775807:=by unfold maxLen at h63;omega
 rcases hown.2 with⟨rfl,rfl⟩|⟨g,cap,cur,rfl,hbg,hg,hnc,hcm,hcs,htake⟩
 · by_cases hm:m=0
   · exact .inl (by rw [h4.2 ⟨rfl,hm⟩])
   · have hx:xs=[]:=List.eq_nil_of_length_eq_zero (by simpa using hown.1);have hr2:=run_append_nil (P:=P) w t ty e i z ht hi hz ad m c news hl hnews (by omega) (by omega) (by have hb:=hbytes;simp only [Nat.zero_add] at hb;omega);rw [hr] at hr2;injection hr2 with hv _
     exact .inr (by rw [hv];rfl)
 · by_cases hroom:n+m≤cap
   · have hfit:n*i.size+news.length≤cur.size:=by rw [hl,hcs,←Nat.add_mul];exact Nat.mul_le_mul_right _ hroom
     have hr2:=run_append_room (P:=P) w t ty e i ht hi g n cap cur hg ad m c news hl hnews h1 hroom hfit;rw [hr] at hr2;injection hr2 with hv _
     exact .inl (by rw [hv];rfl)
   · have holds:∀j u,xs[j]? =some u→w.cell? ((⟨g,0,none⟩:Addr).add j)=some u:=hown.cells (g:=g) rfl;have hr2:=run_append_grow (P:=P) w t ty e i z ht hi hz ⟨g,0,none⟩ n cap xs hown.1 holds ad m c news hl hnews (by omega) (by omega) (growslice_fits (by omega) hbytes);rw [hr] at hr2;injection hr2 with hv _
     exact .inr (by rw [hv];rfl)
end
def W3 (w:World)(a b:Value):World:=((w.alloc (.cells #[a] 196)).alloc (.cells #[b] 196)).alloc (.cells #[.slice none 0 0] 196)
theorem ZiA (w:World)(a b:Value):(W3 w a b).heap.size=w.heap.size+3:=by simp [W3]
theorem ZjU {w W:World} {a b:Value} (h:Below (w.heap.size+3) (W3 w a b) W):Below w.heap.size w W:=
 (((((Below.refl _ w).alloc (Nat.le_refl _) _).alloc (by simp) _).alloc (by simp;omega) _).trans (by unfold W3 at h;exact h.mono (by omega)))
theorem Zr6 {w W:World} {a b:Value} (h:Below (w.heap.size+3) (W3 w a b) W):W.cell? ⟨w.heap.size,0,none⟩=some a∧W.cell? ⟨w.heap.size+1,0,none⟩=some b∧W.cell? ⟨w.heap.size+2,0,none⟩=some (.slice none 0 0)∧W.frozen? ⟨w.heap.size+2,0,none⟩=false∧W.heap[w.heap.size+2]? =some (.cells #[.slice none 0 0] 196 (0,0))∧w.heap.size+2<W.heap.size:=by
 have hs:=h.size;rw [ZiA] at hs;have h2:Below ((w.alloc (.cells #[a] 196)).alloc (.cells #[b] 196)).heap.size ((w.alloc (.cells #[a] 196)).alloc (.cells #[b] 196)) W:=Zd (by unfold W3 at h;simpa using h);obtain⟨b1,_,_⟩:=bx h2;obtain⟨a1,_,_⟩:=bx (Zd h2);have h3:Below (W3 w a b).heap.size (W3 w a b) W:=by rw [ZiA];exact h
 unfold W3 at h3;obtain⟨c1,c2,_⟩:=bx h3;have hh:=Zo (heap_alloc_new ((w.alloc (.cells #[a] 196)).alloc (.cells #[b] 196)) (.cells #[.slice none 0 0] 196)) h3;simp only [World.size_alloc] at b1 c1 c2 hh;exact⟨a1 0,b1 0,c1 0,c2 0,hh,by omega⟩
def RowC (W:World)(ad:Addr)(k:Nat)(x:Rw×Sl):Prop:=W.cell? (ad.add (k*4))=some (.int .i64 (x.1.1:Int))∧W.cell? ⟨(ad.add (k*4)).block,(ad.add (k*4)).off+1,none⟩=some (.int .i64 (x.1.2.1:Int))∧W.cell? ⟨(ad.add (k*4)).block,(ad.add (k*4)).off+2,none⟩=some (.int .i32 x.1.2.2.1)∧W.cell? ⟨(ad.add (k*4)).block,(ad.add (k*4)).off+3,none⟩=some (.slice x.2.1 x.2.2.1 x.2.2.2)
theorem RowC.step {W W':World} {ad:Addr} {k:Nat} {x:Rw×Sl} (h:RowC W ad k x)(hb:Below W.heap.size W W'):RowC W' ad k x:=by
 obtain⟨h1,h2,h3,h4⟩:=h;have hk:∀{a:Addr} {v:Value},W.cell? a=some v→W'.cell? a=some v:=fun{a v} e=>(hb.cell (World.block_lt_of_cell? _ _ e)).trans e;exact⟨hk h1,hk h2,hk h3,hk h4⟩
theorem TbR.rowC {w:World} {B:Nat} {A:Option Addr} {rs:List (Rw×Sl)} (h:TbR w B A rs){k:Nat} {x:Rw×Sl} (hk:rs[k]? =some x):∃ad,A=some ad∧RowC w ad k x∧Zap x.1∧Zz w B x:=by
 obtain⟨ad,h1,_,h2,h3,h4,h5,h6,h7,_⟩:=h.row hk;exact⟨ad,h1,⟨h2,h3,h4,h5⟩,h6,h7⟩
def OvW (base:Nat)(W0:World)(v5:Value)(ts ps:List (Rw×Sl))(wr:World):Prop:=wr.ownsRow base 316 4 v5 (ts++ps).length ((ts++ps).flatMap rV)∧(∀x∈ps,Zz wr wr.heap.size x)∧Below base W0 wr∧base≤wr.heap.size
theorem OvW.step {base:Nat} {W0:World} {v5:Value} {ts ps:List (Rw×Sl)} {wr w':World} (h:OvW base W0 v5 ts ps wr)(hb:Below wr.heap.size wr w'):OvW base W0 v5 ts ps w':=by
 obtain⟨h1,h2,h3,h4⟩:=h;have:=hb.size;exact⟨ZE h1 hb,fun x hx=>((h2 x hx).below hb).more hb.size,h3.trans (hb.mono h4),by omega⟩
theorem OvW.alloc {base:Nat} {W0:World} {v5:Value} {ts ps:List (Rw×Sl)} {wr:World} (h:OvW base W0 v5 ts ps wr)(o:Obj):OvW base W0 v5 ts ps (wr.alloc o):=h.step ((Below.refl _ _).alloc (Nat.le_refl _) o)
def R8 (W:World)(B8:Nat)(x:Rw×Sl):Prop:=W.heap[B8]? =some (.cells #[.int .i64 (x.1.1:Int),.int .i64 (x.1.2.1:Int),.int .i32 x.1.2.2.1,.slice x.2.1 x.2.2.1 x.2.2.2] 316 (0,0))
theorem R8.cells {W:World} {B8:Nat} {x:Rw×Sl} (h:R8 W B8 x):W.cell? ⟨B8,0,none⟩=some (.int .i64 (x.1.1:Int))∧W.cell? ⟨B8,1,none⟩=some (.int .i64 (x.1.2.1:Int))∧W.cell? ⟨B8,2,none⟩=some (.int .i32 x.1.2.2.1)∧W.cell? ⟨B8,3,none⟩=some (.slice x.2.1 x.2.2.1 x.2.2.2):=by
 refine⟨?_,?_,?_,?_⟩<;>(rw [cell_of_row _ B8 _ _ _ _ h];rfl)
def Ends (ts:List (Rw×Sl))(pt cur:Nat):Prop:=pt≤ts.length∧∀j x,j<pt→ts[j]? =some x→x.1.1+x.1.2.1≤cur
def OuRel (base:Nat)(W0:World)(ts os:List (Rw×Sl))(v5 i k:Value)(wr:World):Prop:=∃(kn pt lo:Nat) (ps:List (Rw×Sl)),kn≤os.length∧k= .int .i64 kn∧i= .int .i64 pt∧Ends ts pt lo∧(∀j y,kn≤j→os[j]? =some y→lo≤y.1.1)∧Zao ts (fun y=>y∈Zk (os.take kn)) ps lo∧ps.length≤lo∧lo≤1048576∧OvW base W0 v5 ts ps wr
def MiRel (base:Nat)(W0:World)(ts os:List (Rw×Sl))(kn:Nat)(x0:Rw×Sl)(B8:Nat)(v5 i f:Value)(wr:World):Prop:=∃(cur pt:Nat) (ps:List (Rw×Sl)),f= .int .i64 cur∧i= .int .i64 pt∧x0.1.1≤cur∧cur≤x0.1.1+x0.1.2.1∧Ends ts pt cur∧Zao ts (fun y=>y∈Zk (os.take kn)∨(y∈prs x0.1∧y.1<cur)) ps cur∧ps.length≤cur∧OvW base W0 v5 ts ps wr∧R8 wr B8 x0∧some B8≠v5.ownBlock
def InRel (base:Nat)(W0:World)(ts ps:List (Rw×Sl))(x0:Rw×Sl)(B8 cur:Nat)(v5 i:Value)(wr:World):Prop:=∃pt:Nat,i= .int .i64 pt∧Ends ts pt cur∧OvW base W0 v5 ts ps wr∧R8 wr B8 x0
theorem TbR.fr_mono {w:World} {B:Nat} {A:Option Addr} {rs:List (Rw×Sl)} (h:TbR w B A rs){a b:Nat} {x y:Rw×Sl} (hx:rs[a]? =some x)(hy:rs[b]? =some y)(hab:a<b):x.1.1+x.1.2.1≤y.1.1:=by
 have hp:=h.2.2.1;rw [List.pairwise_map,List.pairwise_iff_getElem] at hp;obtain⟨ha,rfl⟩:=List.getElem?_eq_some_iff.1 hx;obtain⟨hb,rfl⟩:=List.getElem?_eq_some_iff.1 hy;exact hp a b ha hb hab
theorem ZmS {w:World} {B g:Nat} {x:Rw×Sl} (h:Zz w B x)(a:Value){T1:TypeId} {c1:Array Value} (h1:w.heap[g]? =some (.cells c1 T1 (0,0)))(n1:T1≠21):Zz (w.setCell ⟨g,0,none⟩ a) B x:=
 h.keep fun k _ ⟨cs,fr,hh⟩=>heap_set (by
  rintro rfl;rw [hh] at h1;injection h1 with h1;injection h1 with _ h1 _;exact n1 h1.symm) a
theorem Zss {w:World} {A:Option Addr} {rs:List (Rw×Sl)} {g base:Nat} (h:Zb2 w w.heap.size A rs)(hA:∀ad,A=some ad→base≤ad.block)(h1:g<base)(a:Value):Zb2 (w.setCell ⟨g,0,none⟩ a) w.heap.size A rs:=by
 refine⟨⟨h.1.1,fun h0=> ?_⟩,h.2⟩;obtain⟨ad,hA2,hb,hc⟩:=h.1.2 h0;have hba:=hA ad hA2;refine⟨ad,hA2,hb,fun j u hu=> ?_⟩;have hbk:(ad.add j).block=ad.block:=by unfold Addr.add;split<;>rfl
 rw [ZbB (by omega)];exact hc j u hu
def Zjd (ts os:List (Rw×Sl))(w0:World)(e:Ending)(w':World):Prop:=∃A c rs,e= .returned (.agg #[.slice A rs.length c])∧rs.length≤c∧rs.length≤ts.length+1048576∧TbR w' w'.heap.size A rs∧Zk rs=ZcO (Zk ts) (Zk os)∧Below w0.heap.size w0 w'
theorem Zje (At Ao:Option Addr)(ct co:Nat)(ts os:List (Rw×Sl))(hnt:ts.length≤8388608)(hno:os.length≤8388608)(w:World)(ht:TbR w w.heap.size At ts)(ho:TbR w w.heap.size Ao os):
 Calls Tryz.prog 253 #[.agg #[.slice At ts.length ct],.agg #[.slice Ao os.length co]] w (Zjd ts os w):=by
 obtain⟨i0,hi,iz0,iz1,iz2⟩:=info_parts Zh8;generalize hP:Zjd ts os w=P at*;obtain⟨W,hW⟩:∃W,W=W3 w (.slice At ts.length ct) (.slice Ao os.length co):=⟨_,rfl⟩
 have hcl:=ZnW At ct ts (by omega) w.heap.size W ((ht.below (ZjU (by rw [hW];exact Below.refl _ _))).1);have hbx:∀wr,Below (w.heap.size+3) W wr→wr.cell? ⟨w.heap.size,0,none⟩=some (.slice At ts.length ct)∧wr.cell? ⟨w.heap.size+1,0,none⟩=some (.slice Ao os.length co)∧wr.cell? ⟨w.heap.size+2,0,none⟩=some (.slice none 0 0)∧wr.frozen? ⟨w.heap.size+2,0,none⟩=false∧wr.heap[w.heap.size+2]? =some (.cells #[.slice none 0 0] 196 (0,0))∧w.heap.size+2<wr.heap.size:=fun wr h=>Zr6 (by rw [←hW];exact h);have hbw:∀wr,Below (w.heap.size+3) W wr→Below w.heap.size w wr:=fun wr h=>ZjU (by rw [←hW];exact h);have hWs:W.heap.size=w.heap.size+3:=by rw [hW,ZiA]
 have hcl2:∀w',w'=W→Calls Tryz.prog 305 #[.slice At ts.length ct] w' fun e w1=>∃v,e= .returned v∧OvW (w.heap.size+3) W v ts [] w1:=fun w' h=>by
  subst h;refine hcl.mono ?_;rintro e w1 ⟨v,rfl,h1,h2⟩;rw [hWs] at h1 h2;have:=h2.size;exact⟨v,rfl,by simpa using h1,by simp,h2,by omega⟩
 unfold W3 at hW;have hcl3:=hcl2 _ hW.symm;clear hcl hcl2 hW;go_enter Tryz.func253,Tryz.ntmps253
 go_wp2_with (go_at_call 305;refine hcl3.mono ?_;rintro e w1 ⟨v5,rfl,hv0⟩;obtain⟨k0,k1,_,_,_,_⟩:=hbx _ hv0.2.2.1)
 go_loopw [5,6,17] (fun v i k wr=>OuRel (w.heap.size+3) W ts os v i k wr) (fun _ _ k _=>os.length - (intOf k).toNat)
 case atStart=>exact⟨0,0,0,[],by omega,rfl,rfl,⟨by omega,fun j x hj=>by omega⟩,fun _ _ _ _=>Nat.zero_le _,(ov_nil ts 0).more (fun y _=>by simp [Zk]) (Nat.le_refl _),by simp,by omega,hv0⟩
 case round=>
  obtain⟨kn,pt,lo,ps,hkn,rfl,rfl,hE,hlow,hov,hpl,hlo,hv⟩:=hrel;have hvb:=hv.2.2.2;obtain⟨k0',k1',k2',k3',k4',k5'⟩:=hbx _ hv.2.2.1;by_cases hlt:kn<os.length
  · obtain⟨x0,hx0⟩:∃x,os[kn]? =some x:=⟨_,List.getElem?_eq_getElem hlt⟩
    obtain⟨ado,rfl,⟨q0,q1,q2,q3⟩,hok0,_⟩:=(ho.below (hbw _ hv.2.2.1)).rowC hx0;have okr:x0.1.1+x0.1.2.1≤1048576:=hok0.2.1;have okn:1≤x0.1.2.1:=hok0.1;have hlx:=hlow kn x0 (Nat.le_refl _) hx0;have htk:∀y,y∈Zk (os.take (kn+1))↔y∈Zk (os.take kn)∨y∈prs x0.1:=fun y=>by
     have:=Znk os kn x0 hx0;unfold Zbz at this;rw [show Zk (os.take (kn+1))=Zk (os.take kn)++prs x0.1 from this,List.mem_append]
    have Htk:=Lib.hid htk;have Hlow:=Lib.hid hlow;have HV:=Lib.hid hv;have HOV:=Lib.hid hov;have HE:=Lib.hid hE;have hv8:=fun o=>hv.alloc o;have h8:R8 (wr.alloc (.cells #[.int .i64 (x0.1.1:Int),.int .i64 (x0.1.2.1:Int),.int .i32 x0.1.2.2.1,.slice x0.2.1 x0.2.2.1 x0.2.2.2] 316)) wr.heap.size x0:=heap_alloc_new wr _;have H80:=Lib.hid h8;have HNE:=Lib.hid (show some wr.heap.size≠u5.ownBlock from fun e=>by have:=(hv.1.lt wr.heap.size e.symm).2;omega);have HV8:=Lib.hid hv8;clear htk hlow hv hov hE h8 hv8 k0 k1;go_wp2_with fail
    generalize hB8:wr.heap.size=B8 at*;go_loopw [5,6,9] (fun v i f wr2=>MiRel (w.heap.size+3) W ts os kn x0 B8 v i f wr2) (fun _ _ f _=>x0.1.1+x0.1.2.1 - (intOf f).toNat)
    case atStart=>exact⟨x0.1.1,pt,ps,rfl,rfl,Nat.le_refl _,by omega,⟨HE.out.1,fun j x h1 h2=>Nat.le_trans (HE.out.2 j x h1 h2) hlx⟩,HOV.out.more (fun y _=>⟨fun h=> .inl h,fun h=>h.elim id (fun h=>by have:=(Za1.1 h.1).1;omega)⟩) hlx,by omega,HV8.out _,H80.out,HNE.out⟩
    case round=>
     clear hlx hpl;obtain⟨cur,pt,ps,rfl,rfl,hc1,hc2,hE,hov,hpl,hv,h8,hne5⟩:=hrel;have HNE:=Lib.hid hne5;clear hne5;obtain⟨z0,z1,z2,z3⟩:=h8.cells;have HV:=Lib.hid hv;have H8:=Lib.hid h8;have HE:=Lib.hid hE;have HOV:=Lib.hid hov;clear hv h8 hE hov;by_cases hcur:cur<x0.1.1+x0.1.2.1
     · have hcuri:(cur:Int)<(x0.1.1:Int)+x0.1.2.1:=by omega
       go_wp2_with (go_at_call 255;refine(Zch _ _ _ _ (by assumption) _).mono ?_;rintro e w4 ⟨rfl,hb4⟩;have HV:=Lib.hid (HV.out.step hb4);have H8:=Lib.hid (show R8 w4 B8 x0 from Zo H8.out hb4);obtain⟨z0,z1,z2,z3⟩:=H8.out.cells;obtain⟨kt,_,_,_,_,_⟩:=hbx _ HV.out.2.2.1)
       go_loopw [6] (fun i wr3=>InRel (w.heap.size+3) W ts ps x0 B8 cur u5 i wr3) (fun i _=>ts.length - (intOf i).toNat)
       case atStart=>exact⟨pt,rfl,HE.out,HV.out,H8.out⟩
       case round=>
        obtain⟨pt,rfl,hE,hv,h8⟩:=hrel;obtain⟨z0,z1,z2,z3⟩:=h8.cells;obtain⟨kt,_,_,_,_,_⟩:=hbx _ hv.2.2.1;have hov:=HOV.out;have HV:=Lib.hid hv;have H8:=Lib.hid h8;have HEi:=Lib.hid hE;by_cases hpt:pt<ts.length
        · obtain⟨y,hy⟩:∃y,ts[pt]? =some y:=⟨_,List.getElem?_eq_getElem hpt⟩
          obtain⟨adt,hAt,hyc,hoky,_⟩:=(ht.below (hbw _ hv.2.2.1)).rowC hy;subst hAt;have oky:y.1.1+y.1.2.1≤1048576:=hoky.2.1;have okyn:1≤y.1.2.1:=hoky.1;obtain⟨y0,y1,y2,y3⟩:=hyc;have HY:=Lib.hid (show RowC _ adt pt y from⟨y0,y1,y2,y3⟩);by_cases hle:y.1.1+y.1.2.1≤cur
          · have hlei:(y.1.1:Int)+y.1.2.1≤(cur:Int):=by omega
            have hE2:Ends ts (pt+1) cur:=⟨by omega,fun j x h1 h2=>by
             rcases Nat.lt_or_ge j pt with h3|h3
             · exact hE.2 j x h3 h2
             · obtain rfl:j=pt:=by omega
               rw [hy] at h2;injection h2 with h2;subst h2;exact hle⟩
            have HE2:=Lib.hid hE2;clear hE hv h8 hov hE2;go_wp2_with (go_at_call 255;refine(Zch _ _ _ _ (by assumption) _).mono ?_;rintro e w4 ⟨rfl,hb4⟩;have HV:=Lib.hid (HV.out.step hb4);have H8:=Lib.hid (show R8 w4 B8 x0 from Zo H8.out hb4);obtain⟨z0,z1,z2,z3⟩:=H8.out.cells;obtain⟨kt,_,_,_,_,_⟩:=hbx _ HV.out.2.2.1;have HY:=Lib.hid (HY.out.step hb4);obtain⟨y0,y1,y2,y3⟩:=HY.out)
            refine⟨⟨pt+1,by simp,HE2.out,HV.out,H8.out⟩,by simp [intOf];omega⟩
          · have hlei:¬(y.1.1:Int)+y.1.2.1≤(cur:Int):=by omega
            by_cases hfy:y.1.1≤cur
            · have hfyi:(y.1.1:Int)≤(cur:Int):=by omega
              obtain⟨mn,hmn⟩:∃m:Nat,m=min (x0.1.1+x0.1.2.1) (y.1.1+y.1.2.1):=⟨_,rfl⟩
              have hmni:min ((x0.1.1:Int)+x0.1.2.1) ((y.1.1:Int)+y.1.2.1)=(mn:Int):=by omega
              have hmn1:cur<mn∧mn≤x0.1.1+x0.1.2.1∧mn≤y.1.1+y.1.2.1:=by omega
              clear hmn;have hE2:Ends ts pt mn:=⟨hE.1,fun j x h1 h2=>Nat.le_trans (hE.2 j x h1 h2) (by omega)⟩
              have hov2:Zao ts (fun z=>z∈Zk (os.take kn)∨(z∈prs x0.1∧z.1<mn)) ps mn:=hov.more (fun z hz=>by
               constructor
               · rintro(h|⟨h,h2⟩)
                 · exact .inl h
                 · exact .inr ⟨h,by omega⟩
               · rintro(h|⟨h,h2⟩)
                 · exact .inl h
                 · rcases Nat.lt_or_ge z.1 cur with h3|h3
                   · exact .inr ⟨h,h3⟩
                   · exfalso
                     have:ZZ (Zk ts) z.1=true:=hasT.2 ⟨y,List.mem_of_getElem? hy,by omega,by omega⟩;rw [hz] at this;cases this) (by omega)
              have HE2:=Lib.hid hE2;have HOV2:=Lib.hid hov2;clear hE hv h8 hov hE2 hov2;go_wp2_with (go_at_call 255;refine(Zch _ _ _ _ (by assumption) _).mono ?_;rintro e w4 ⟨rfl,hb4⟩;have HV:=Lib.hid (HV.out.step hb4);have H8:=Lib.hid (show R8 w4 B8 x0 from Zo H8.out hb4);obtain⟨z0,z1,z2,z3⟩:=H8.out.cells;obtain⟨kt,_,_,_,_,_⟩:=hbx _ HV.out.2.2.1;have HY:=Lib.hid (HY.out.step hb4);obtain⟨y0,y1,y2,y3⟩:=HY.out)
              refine⟨⟨mn,pt,ps,rfl,rfl,by omega,by omega,HE2.out,HOV2.out,by omega,HV.out,H8.out,HNE.out⟩,by simp [intOf];omega⟩
            · have hfyi:¬(y.1.1:Int)≤(cur:Int):=by omega
              obtain⟨en,hen⟩:∃en,en=min (x0.1.1+x0.1.2.1) y.1.1:=⟨_,rfl⟩
              have hen1:cur<en:=by omega
              have hen2:en≤x0.1.1+x0.1.2.1:=by omega
              have hmni:min ((x0.1.1:Int)+x0.1.2.1) (y.1.1:Int)=(en:Int):=by omega
              have hnc:∀c,cur≤c→c<en→ZZ (Zk ts) c=false:=fun c hc1 hc2=>by
               cases hb:ZZ (Zk ts) c with
               |false=>rfl
               |true=>
                exfalso
                obtain⟨x,hx,g1,g2⟩:=hasT.1 hb;obtain⟨j,hj,rfl⟩:=List.getElem_of_mem hx;rcases Nat.lt_or_ge j pt with h1|h1
                · have:=hE.2 j _ h1 (List.getElem?_eq_getElem hj);omega
                · rcases Nat.lt_or_ge pt j with h2|h2
                  · have:=ht.fr_mono hy (List.getElem?_eq_getElem hj) h2;omega
                  · obtain rfl:j=pt:=by omega
                    rw [List.getElem?_eq_getElem hj] at hy;injection hy with hy;subst hy;omega
              have hnew:=fun q=>hov.part (q:=q) hok0 hc1 hen1 hen2 hnc;have Hnew:=Lib.hid hnew;have hpart:∀(W':World),Below w.heap.size w W'→Calls Tryz.prog 306 #[.agg #[.int .i64 (x0.1.1:Int),.int .i64 (x0.1.2.1:Int),.int .i32 x0.1.2.2.1,.slice x0.2.1 x0.2.2.1 x0.2.2.2],.int .i64 (cur:Int),.int .i64 (en:Int)] W' fun e w'=>∃q:Sl,e= .returned (.agg #[.int .i64 (cur:Int),.int .i64 ((en - cur:Nat):Int),.int .i32 (Zy x0.1 cur en).2.2.1,.slice q.1 q.2.1 q.2.2])∧Zz w' W'.heap.size (Zy x0.1 cur en,q)∧Below W'.heap.size W' w':=fun W' hB=>Zjg x0 cur en hok0 hc1 hen1 hen2 W' (((ho.2.1 x0 (List.mem_of_getElem? hx0)).2.below hB).more hB.size);have hpl:(ts++ps).length≤9437184:=by rw [List.length_append];omega
              clear hnew hnc hov hen;go_wp2_with (first|(go_at_call 255;refine(Zch _ _ _ _ (by assumption) _).mono ?_;rintro e w4 ⟨rfl,hb4⟩;have HV:=Lib.hid (HV.out.step hb4);have H8:=Lib.hid (show R8 w4 B8 x0 from Zo H8.out hb4);obtain⟨z0,z1,z2,z3⟩:=H8.out.cells;obtain⟨kt,_,_,_,_,_⟩:=hbx _ HV.out.2.2.1;have HY:=Lib.hid (HY.out.step hb4);obtain⟨y0,y1,y2,y3⟩:=HY.out)|(go_at_call 306;refine(hpart _ (hbw _ HV.out.2.2.1)).mono ?_;rintro e w6 ⟨q6,rfl,hsg6,hb6⟩;have HV:=Lib.hid (HV.out.step hb6);have H8:=Lib.hid (show R8 w6 B8 x0 from Zo H8.out hb6);have HSG:=Lib.hid (hsg6.more hb6.size))|(at_builtin;obtain⟨v7,w7,hrun,hown7,hg7,hloc⟩:=ZjM (P:=Tryz.prog) (w6.alloc (.cells #[.int .i64 (cur:Int),.int .i64 ((en - cur:Nat):Int),.int .i32 (Zy x0.1 cur en).2.2.1,.slice q6.1 q6.2.1 q6.2.2] 316)) (w.heap.size+3) 194 194 316 i0 _ 4 48 Tryz.underlying194 hi iz0 iz1 iz2 rfl (by decide) _ (ts++ps).length _ ((HV.out.alloc _).1) ⟨w6.heap.size,0,none⟩ 1 1 [.int .i64 (cur:Int),.int .i64 ((en - cur:Nat):Int),.int .i32 (Zy x0.1 cur en).2.2.1,.slice q6.1 q6.2.1 q6.2.2] rfl (Zfy w6 _ _ _ _ _) (by intro u hu;simp only [List.mem_cons,List.not_mem_nil,or_false] at hu;rcases hu with rfl|rfl|rfl|rfl<;>rfl) (by unfold maxLen;omega) (by omega) (by have:=HV.out.2.2.2;simp;omega);refine Lib.wpList_append_run _ rfl _ _ _ _ rfl _ _ rfl rfl _ _ hrun ?_;clear hrun;have HOWN:=Lib.hid hown7;have HG7:=Lib.hid hg7;have HLOC:=Lib.hid hloc;clear hown7 hg7 hloc))
              have HV6:=HV.out.alloc (.cells #[.int .i64 (cur:Int),.int .i64 ((en - cur:Nat):Int),.int .i32 (Zy x0.1 cur en).2.2.1,.slice q6.1 q6.2.1 q6.2.2] 316);have HB7:=Zad HV6.2.2.1 HV6.1 HG7.out HV6.2.2.2 (Nat.le_refl _);have hsg7:∀x∈ps++[(Zy x0.1 cur en,q6)],Zz w7 w7.heap.size x:=fun x hx=>by
               rcases List.mem_append.1 hx with h1|h1
               · exact(ZbU (HV6.2.1 x h1) HV6.1 (by decide) HG7.out (Nat.le_refl _)).more HG7.out.size
               · simp only [List.mem_singleton] at h1;subst h1;exact(ZbU ((HSG.out.below ((Below.refl _ _).alloc (Nat.le_refl _) _)).more (by simp)) HV6.1 (by decide) HG7.out (Nat.le_refl _)).more HG7.out.size
              have hl8:=(Array.getElem?_eq_some_iff.1 H8.out).1;have h88:=(Below.heap_alloc w6 (.cells #[.int .i64 (cur:Int),.int .i64 ((en - cur:Nat):Int),.int .i32 (Zy x0.1 cur en).2.2.1,.slice q6.1 q6.2.1 q6.2.2] 316) _ hl8).trans H8.out;refine⟨⟨en,pt,ps++[(Zy x0.1 cur en,q6)],rfl,(by first|rfl|rw [hptn]),by omega,by omega,⟨HEi.out.1,fun j x h1 h2=>Nat.le_trans (HEi.out.2 j x h1 h2) (by omega)⟩,(Hnew.out q6).more (fun z _=> ?_) (Nat.le_refl _),by rw [List.length_append,List.length_singleton];omega,⟨?_,hsg7,HB7,by have:=HG7.out.size;have:=HV6.2.2.2;omega⟩,(HG7.out.block _ (by simp;omega) HNE.out).trans h88,fun e=>HLOC.out.elim (fun h=>HNE.out (e.trans h)) (fun h=>by rw [h] at e;injection e with e;simp at e;omega)⟩,by simp [intOf];omega⟩
              · constructor
                · rintro((h|⟨h,h2⟩)|⟨h,h2,h3⟩)
                  · exact .inl h
                  · exact .inr ⟨h,by omega⟩
                  · exact .inr ⟨h,h3⟩
                · rintro(h|⟨h,h2⟩)
                  · exact .inl (.inl h)
                  · rcases Nat.lt_or_ge z.1 cur with h3|h3
                    · exact .inl (.inr ⟨h,h3⟩)
                    · exact .inr ⟨h,h3,h2⟩
              · have:=HOWN.out;rw [←List.append_assoc,List.length_append,List.flatMap_append];simpa [rV,slV,Zy] using this
        · have hptn:pt=ts.length:=by have:=hE.1;omega
          have hpti:¬(pt:Int)<(ts.length:Int):=by omega
          obtain⟨en,hen⟩:∃en,en=x0.1.1+x0.1.2.1:=⟨_,rfl⟩
          have hen1:cur<en:=by omega
          have hen2:en≤x0.1.1+x0.1.2.1:=by omega
          have heni:(x0.1.1:Int)+x0.1.2.1=(en:Int):=by omega
          have hnc:∀c,cur≤c→c<en→ZZ (Zk ts) c=false:=fun c hc1 hc2=>by
           cases hb:ZZ (Zk ts) c with
           |false=>rfl
           |true=>
            exfalso
            obtain⟨x,hx,g1,g2⟩:=hasT.1 hb;obtain⟨j,hj,rfl⟩:=List.getElem_of_mem hx;rcases Nat.lt_or_ge j pt with h1|h1
            · have:=hE.2 j _ h1 (List.getElem?_eq_getElem hj);omega
            · omega
          have hnew:=fun q=>hov.part (q:=q) hok0 hc1 hen1 hen2 hnc;have Hnew:=Lib.hid hnew;have hpart:∀(W':World),Below w.heap.size w W'→Calls Tryz.prog 306 #[.agg #[.int .i64 (x0.1.1:Int),.int .i64 (x0.1.2.1:Int),.int .i32 x0.1.2.2.1,.slice x0.2.1 x0.2.2.1 x0.2.2.2],.int .i64 (cur:Int),.int .i64 (en:Int)] W' fun e w'=>∃q:Sl,e= .returned (.agg #[.int .i64 (cur:Int),.int .i64 ((en - cur:Nat):Int),.int .i32 (Zy x0.1 cur en).2.2.1,.slice q.1 q.2.1 q.2.2])∧Zz w' W'.heap.size (Zy x0.1 cur en,q)∧Below W'.heap.size W' w':=fun W' hB=>Zjg x0 cur en hok0 hc1 hen1 hen2 W' (((ho.2.1 x0 (List.mem_of_getElem? hx0)).2.below hB).more hB.size);have hpl:(ts++ps).length≤9437184:=by rw [List.length_append];omega
          clear hnew hnc hov hen;go_wp2_with (first|(go_at_call 255;refine(Zch _ _ _ _ (by assumption) _).mono ?_;rintro e w4 ⟨rfl,hb4⟩;have HV:=Lib.hid (HV.out.step hb4);have H8:=Lib.hid (show R8 w4 B8 x0 from Zo H8.out hb4);obtain⟨z0,z1,z2,z3⟩:=H8.out.cells;obtain⟨kt,_,_,_,_,_⟩:=hbx _ HV.out.2.2.1)|(go_at_call 306;refine(hpart _ (hbw _ HV.out.2.2.1)).mono ?_;rintro e w6 ⟨q6,rfl,hsg6,hb6⟩;have HV:=Lib.hid (HV.out.step hb6);have H8:=Lib.hid (show R8 w6 B8 x0 from Zo H8.out hb6);have HSG:=Lib.hid (hsg6.more hb6.size))|(at_builtin;obtain⟨v7,w7,hrun,hown7,hg7,hloc⟩:=ZjM (P:=Tryz.prog) (w6.alloc (.cells #[.int .i64 (cur:Int),.int .i64 ((en - cur:Nat):Int),.int .i32 (Zy x0.1 cur en).2.2.1,.slice q6.1 q6.2.1 q6.2.2] 316)) (w.heap.size+3) 194 194 316 i0 _ 4 48 Tryz.underlying194 hi iz0 iz1 iz2 rfl (by decide) _ (ts++ps).length _ ((HV.out.alloc _).1) ⟨w6.heap.size,0,none⟩ 1 1 [.int .i64 (cur:Int),.int .i64 ((en - cur:Nat):Int),.int .i32 (Zy x0.1 cur en).2.2.1,.slice q6.1 q6.2.1 q6.2.2] rfl (Zfy w6 _ _ _ _ _) (by intro u hu;simp only [List.mem_cons,List.not_mem_nil,or_false] at hu;rcases hu with rfl|rfl|rfl|rfl<;>rfl) (by unfold maxLen;omega) (by omega) (by have:=HV.out.2.2.2;simp;omega);refine Lib.wpList_append_run _ rfl _ _ _ _ rfl _ _ rfl rfl _ _ hrun ?_;clear hrun;have HOWN:=Lib.hid hown7;have HG7:=Lib.hid hg7;have HLOC:=Lib.hid hloc;clear hown7 hg7 hloc))
          have HV6:=HV.out.alloc (.cells #[.int .i64 (cur:Int),.int .i64 ((en - cur:Nat):Int),.int .i32 (Zy x0.1 cur en).2.2.1,.slice q6.1 q6.2.1 q6.2.2] 316);have HB7:=Zad HV6.2.2.1 HV6.1 HG7.out HV6.2.2.2 (Nat.le_refl _);have hsg7:∀x∈ps++[(Zy x0.1 cur en,q6)],Zz w7 w7.heap.size x:=fun x hx=>by
           rcases List.mem_append.1 hx with h1|h1
           · exact(ZbU (HV6.2.1 x h1) HV6.1 (by decide) HG7.out (Nat.le_refl _)).more HG7.out.size
           · simp only [List.mem_singleton] at h1;subst h1;exact(ZbU ((HSG.out.below ((Below.refl _ _).alloc (Nat.le_refl _) _)).more (by simp)) HV6.1 (by decide) HG7.out (Nat.le_refl _)).more HG7.out.size
          have hl8:=(Array.getElem?_eq_some_iff.1 H8.out).1;have h88:=(Below.heap_alloc w6 (.cells #[.int .i64 (cur:Int),.int .i64 ((en - cur:Nat):Int),.int .i32 (Zy x0.1 cur en).2.2.1,.slice q6.1 q6.2.1 q6.2.2] 316) _ hl8).trans H8.out;refine⟨⟨en,pt,ps++[(Zy x0.1 cur en,q6)],rfl,(by first|rfl|rw [hptn]),by omega,by omega,⟨HEi.out.1,fun j x h1 h2=>Nat.le_trans (HEi.out.2 j x h1 h2) (by omega)⟩,(Hnew.out q6).more (fun z _=> ?_) (Nat.le_refl _),by rw [List.length_append,List.length_singleton];omega,⟨?_,hsg7,HB7,by have:=HG7.out.size;have:=HV6.2.2.2;omega⟩,(HG7.out.block _ (by simp;omega) HNE.out).trans h88,fun e=>HLOC.out.elim (fun h=>HNE.out (e.trans h)) (fun h=>by rw [h] at e;injection e with e;simp at e;omega)⟩,by simp [intOf];omega⟩
          · constructor
            · rintro((h|⟨h,h2⟩)|⟨h,h2,h3⟩)
              · exact .inl h
              · exact .inr ⟨h,by omega⟩
              · exact .inr ⟨h,h3⟩
            · rintro(h|⟨h,h2⟩)
              · exact .inl (.inl h)
              · rcases Nat.lt_or_ge z.1 cur with h3|h3
                · exact .inl (.inr ⟨h,h3⟩)
                · exact .inr ⟨h,h3,h2⟩
          · have:=HOWN.out;rw [←List.append_assoc,List.length_append,List.flatMap_append];simpa [rV,slV,Zy] using this
     · have hcure:cur=x0.1.1+x0.1.2.1:=by omega
       have hcuri:¬(cur:Int)<(x0.1.1:Int)+x0.1.2.1:=by omega
       go_wp2_with (go_at_call 255;refine(Zch _ _ _ _ (by assumption) _).mono ?_;rintro e w4 ⟨rfl,hb4⟩;have HV:=Lib.hid (HV.out.step hb4);have H8:=Lib.hid (show R8 w4 B8 x0 from Zo H8.out hb4);obtain⟨z0,z1,z2,z3⟩:=H8.out.cells;obtain⟨kt,_,_,_,_,_⟩:=hbx _ HV.out.2.2.1)
       refine⟨⟨kn+1,pt,cur,ps,by omega,by simp,rfl,HE.out,fun j y h1 h2=>by have:=ho.fr_mono hx0 h2 (by omega);omega,HOV.out.more (fun z _=> ?_) (Nat.le_refl _),hpl,by omega,HV.out⟩,by simp [intOf];omega⟩;rw [Htk.out];constructor
       · rintro(h|⟨h,h2⟩)
         · exact .inl h
         · exact .inr h
       · rintro(h|h)
         · exact .inl h
         · exact .inr ⟨h,by have:=(Za1.1 h).2.1;omega⟩
  · obtain rfl:kn=os.length:=by omega
    rw [List.take_length] at hov;obtain⟨A5,c5,hv5,hc5,_⟩:=Reads.of_own hv.1;obtain⟨nn,hnn⟩:∃n,n=(ts++ps).length:=⟨_,rfl⟩
    rw [←hnn] at hv5;subst hv5;have hbf:=ZiN (w.heap.size+3) (.slice A5 nn c5) (ts++ps) wr hv.1 hvb (by rw [List.length_append];omega);have Hlt5:=Lib.hid (show∀ad,A5=some ad→w.heap.size+3≤ad.block from fun ad h=>(hv.1.lt ad.block (by rw [h];rfl)).1);have HV:=Lib.hid hv;have HOV:=Lib.hid hov;have Hnn:=Lib.hid hnn;clear hv hov hE hlow hnn;go_wp2_with (go_at_call 304;refine hbf.mono ?_;rintro e w9 ⟨rfl,A6,c6,rs',hv6,hc6,hperm,hsort,hrd,hbb,hgr9⟩;have HB9:=HV.out.2.2.1.trans hbb;obtain⟨_,_,c2,f2,n2,g2⟩:=hbx _ HB9;injection hv6 with hA6 hx6 hcc6;clear hx6;subst hA6;subst hcc6;have Hperm:=Lib.hid hperm;have Hsort:=Lib.hid hsort;have Hrd:=Lib.hid hrd;clear hperm hsort hrd)
    obtain⟨hro,hprs⟩:=ov_end ht.2.2 ho.2.2 HOV.out Hperm.out Hsort.out;have hlen:rs'.length=nn:=Hperm.out.length_eq.trans Hnn.out.symm;have hnl:nn=ts.length+ps.length:=Hnn.out.trans List.length_append;have hsg9:∀x∈rs',Zz w9 w9.heap.size x:=fun x hx=>by
     rcases List.mem_append.1 (Hperm.out.mem_iff.1 hx) with h1|h1
     · exact((ht.2.1 x h1).2.below (hbw _ HB9)).more (hbw _ HB9).size
     · exact(ZbU (HV.out.2.1 x h1) HV.out.1 (by decide) hgr9 (Nat.le_refl _)).more hgr9.size
    have hf:P (.returned (.agg #[.slice A5 nn c5])) (w9.setCell ⟨w.heap.size+2,0,none⟩ (.slice A5 nn c5)):=by
     rw [←hP];refine⟨A5,c5,rs',by rw [hlen],by rw [hlen,Hnn.out];exact hc5,by omega,⟨?_,fun x hx=>⟨hro.2 _ (List.mem_map_of_mem hx),?_⟩,hro⟩,hprs,(hbw _ HB9).setCell (by simp) _⟩
     · rw [show(w9.setCell ⟨w.heap.size+2,0,none⟩ (.slice A5 nn c5)).heap.size=w9.heap.size by simp];exact Zss Hrd.out Hlt5.out (by omega) _
     · rw [show(w9.setCell ⟨w.heap.size+2,0,none⟩ (.slice A5 nn c5)).heap.size=w9.heap.size by simp];exact ZmS (hsg9 x hx) _ n2 (by decide)
    refine bodyPost_ret (v:= .agg #[.slice A5 nn c5]) (by simp [results,Tryz.results253,go_sem,c2]) rfl ?_;exact hf
end Go.Proofs.YtlglfmbccihopaaGreatDoor
