/- Lemmas for a statement on the tops; conditions: as each says. -/
import Derived.Test.YtlfinljfghhpdaaGreatDoorM23
set_option linter.unusedVariables false
set_option linter.unusedSimpArgs false
set_option maxRecDepth 100000
set_option maxHeartbeats 8000000
namespace Go.Proofs.YtlfinljfghhpdaaGreatDoor
open Go Go.RowKit
def TbR (w:World)(B:Nat)(A:Option Addr)(rs:List (Rw×Sl)):Prop:=Zb8 w B A rs∧(∀x∈rs,ZaC x.1∧ZI w B x)∧Zdd (rs.map (·.1))
theorem TbR.below {w w':World} {B:Nat} {A:Option Addr} {rs:List (Rw×Sl)} (h:TbR w B A rs)(hb:Below B w w'):TbR w' B A rs:=by
 obtain⟨⟨h1,h2⟩,h3,h4⟩:=h;exact⟨⟨h1.below hb,h2⟩,fun x hx=>⟨(h3 x hx).1,(h3 x hx).2.below hb⟩,h4⟩
theorem TbR.more {w:World} {B B':Nat} {A:Option Addr} {rs:List (Rw×Sl)} (h:TbR w B A rs)(hb:B≤B'):TbR w B' A rs:=by
 obtain⟨⟨h1,h2⟩,h3,h4⟩:=h;exact⟨⟨h1.more hb,h2⟩,fun x hx=>⟨(h3 x hx).1,(h3 x hx).2.more hb⟩,h4⟩
theorem ZjZ (ad:Addr)(k i:Nat)(hi:i≠0):ad.add (k+i)=⟨(ad.add k).block,(ad.add k).off+i,none⟩:=by
 rw [←ZgP];show(if i=0 then _ else _)=_
 rw [if_neg hi]
theorem TbR.row {w:World} {B:Nat} {A:Option Addr} {rs:List (Rw×Sl)} (h:TbR w B A rs){k:Nat} {x:Rw×Sl} (hk:rs[k]? =some x):
 ∃ad,A=some ad∧ad.block<B∧w.cell? (ad.add (k*4))=some (.int .i64 (x.1.1:Int))∧w.cell? ⟨(ad.add (k*4)).block,(ad.add (k*4)).off+1,none⟩=some (.int .i64 (x.1.2.1:Int))∧
  w.cell? ⟨(ad.add (k*4)).block,(ad.add (k*4)).off+2,none⟩=some (.int .i32 x.1.2.2.1)∧w.cell? ⟨(ad.add (k*4)).block,(ad.add (k*4)).off+3,none⟩=some (.slice x.2.1 x.2.2.1 x.2.2.2)∧ZaC x.1∧ZI w B x∧x∈rs:=by
 obtain⟨⟨⟨_,h1⟩,_⟩,h3,_⟩:=h;have hlt:k<rs.length:=by
  rcases Nat.lt_or_ge k rs.length with h|h
  · exact h
  · rw [List.getElem?_eq_none h] at hk;cases hk
 obtain⟨ad,hA,hb,hc⟩:=h1 (by omega);have hx:=List.mem_of_getElem? hk;have hg:∀i u,(rV x)[i]? =some u→i<4→w.cell? (ad.add (k*4+i))=some u:=fun i u hu hi=>hc _ _ ((Zfx rV ZdB rs k i x hk hi).trans hu);have g0:=hg 0 _ rfl (by omega);have g1:=hg 1 _ rfl (by omega);have g2:=hg 2 _ rfl (by omega);have g3:=hg 3 _ rfl (by omega);rw [Nat.add_zero] at g0;rw [ZjZ _ _ _ (by omega)] at g1 g2 g3;exact⟨ad,hA,hb,g0,g1,g2,g3,(h3 x hx).1,(h3 x hx).2,hx⟩
def szR (rs:List (Rw×Sl)):Nat:=(rs.map fun x:Rw×Sl=>x.1.2.1).sum
theorem Zuf (rs:List (Rw×Sl))(k:Nat)(x:Rw×Sl)(h:rs[k]? =some x):szR (rs.take (k+1))=szR (rs.take k)+x.1.2.1:=by
 unfold szR;rw [List.take_add_one,h];simp
theorem Znl:∀(rs:List (Rw×Sl)) (lo:Nat),lo≤1048576→(∀x∈rs,lo≤x.1.1)→(rs.map (·.1)).Pairwise (fun a b=>a.1+a.2.1≤b.1)→(∀x∈rs,x.1.1+x.1.2.1≤1048576)→lo+szR rs≤1048576
 |[],lo,h,_,_,_=>by simpa [szR] using h
 |x::rs,lo,h,h1,h2,h3=>by
  rw [List.map_cons,List.pairwise_cons] at h2;have h4:=h3 x (by simp);have h5:=h1 x (by simp);have:=Znl rs (x.1.1+x.1.2.1) h4 (fun y hy=>h2.1 _ (List.mem_map_of_mem hy)) h2.2 (fun y hy=>h3 y (by simp [hy]));have e:szR (x::rs)=x.1.2.1+szR rs:=by simp [szR]
  omega
theorem TbR.total {w:World} {B:Nat} {A:Option Addr} {rs:List (Rw×Sl)} (h:TbR w B A rs):szR rs≤1048576:=by
 have:=Znl rs 0 (by omega) (fun _ _=>Nat.zero_le _) h.2.2.1 (fun x hx=>(h.2.1 x hx).1.2.1);omega
theorem Znn (rs:List (Rw×Sl))(k:Nat):szR (rs.take k)≤szR rs:=by
 unfold szR
 conv=>rhs;rw [←List.take_append_drop k rs]
 rw [List.map_append,List.sum_append];omega
theorem Zf9 (rs:List (Rw×Sl)):((rs.map (·.1)).flatMap prs).length=szR rs:=by
 unfold szR;induction rs with
 |nil=>rfl
 |cons x rs ih=>rw [List.map_cons,List.flatMap_cons,List.length_append,ZfY,ih];simp
def SzRel (rs:List (Rw×Sl))(w0:World)(v i:Value)(wr:World):Prop:=∃k:Nat,k≤rs.length∧i= .int .i64 k∧v= .int .i64 (szR (rs.take k):Nat)∧Below w0.heap.size w0 wr
theorem ZpR (A:Option Addr)(c:Nat)(rs:List (Rw×Sl))(hn:rs.length≤35184372089000)(w:World)(h:TbR w w.heap.size A rs):
 Calls Tryz.prog 302 #[.agg #[.slice A rs.length c]] w fun e w'=>e= .returned (.int .i64 (szR rs:Nat))∧Below w.heap.size w w':=by
 have htot:=h.total;go_enter Tryz.func302,Tryz.ntmps302
 go_wp2_with fail
 go_loopw [3,9] (fun v i wr=>SzRel rs w v i wr) (fun _ i _=>rs.length - (intOf i).toNat)
 case atStart=>exact⟨0,by omega,rfl,rfl,(Below.refl _ w).alloc (Nat.le_refl _) _⟩
 case round=>
  obtain⟨k,hk,rfl,rfl,hb⟩:=hrel;by_cases hlt:k<rs.length
  · obtain⟨x,hx⟩:∃x,rs[k]? =some x:=⟨_,List.getElem?_eq_getElem hlt⟩
    obtain⟨ad,rfl,hadb,y0,y1,y2,y3,hok,_,_⟩:=(h.below hb).row hx;have hz:=hb.size;have hs:=Zuf rs k x hx;have hle:=Znn rs (k+1);have e1:IntKind.i64.wrap ((szR (rs.take k):Nat)+(x.1.2.1:Int))=((szR (rs.take (k+1)):Nat):Int):=by rw [hs,IntWalk.i64_in _ (by omega)];simp
    clear hs;generalize hq:szR (rs.take (k+1))=s' at e1;have Hq:=Lib.hid hq;clear hq hle;generalize szR (rs.take k)=s at*;go_wp2_with fail
    go_roundw
    case rel=>exact⟨k+1,by omega,by simp,by rw [Hq.out],hb.alloc (by omega) _⟩
    case measure=>simp [intOf];omega
  · obtain rfl:k=rs.length:=by omega
    rw [List.take_length];go_wp2_with fail
    go_ret
    exact⟨rfl,hb⟩
theorem Zs2:(Tryz.prog.info? 273).map (fun i=>(i.zero,i.size,i.bytes))=some (some (.agg #[.int .i64 0,.int .i32 0]),2,16):=by kernel_rfl
def prV (x:Pr):List Value:=[.int .i64 (x.1:Int),.int .i32 x.2]
def ZbF (rs:List (Rw×Sl))(k:Nat):List Pr:=((rs.take k).map (·.1)).flatMap prs
theorem ZuO (rs:List (Rw×Sl))(k:Nat):(ZbF rs k).length=szR (rs.take k):=Zf9 _
theorem Znw (rs:List (Rw×Sl))(k:Nat)(x:Rw×Sl)(h:rs[k]? =some x):ZbF rs (k+1)=ZbF rs k++prs x.1:=by
 unfold ZbF;rw [List.take_add_one,h];simp
theorem Zta (r:Rw)(j:Nat)(h:j<r.2.1):(prs r).take (j+1)=(prs r).take j++[(r.1+j,ZaL r j)]:=by
 have:(prs r)[j]? =some (r.1+j,ZaL r j):=by
  unfold prs;rw [List.getElem?_map,List.getElem?_range h];rfl
 rw [List.take_add_one,this];rfl
def PaRel (rs:List (Rw×Sl))(w0:World)(v i:Value)(wr:World):Prop:=∃k:Nat,k≤rs.length∧i= .int .i64 k∧wr.ownsRow w0.heap.size 273 2 v (ZbF rs k).length ((ZbF rs k).flatMap prV)∧Below w0.heap.size w0 wr
def PiRel (L:List Pr)(x:Rw×Sl)(B5:Nat)(w0:World)(v c:Value)(wr:World):Prop:=∃j:Nat,j≤x.1.2.1∧c= .int .i64 ((x.1.1+j:Nat):Int)∧wr.ownsRow w0.heap.size 273 2 v (L++(prs x.1).take j).length ((L++(prs x.1).take j).flatMap prV)∧
 wr.heap[B5]? =some (.cells #[.int .i64 (x.1.1:Int),.int .i64 (x.1.2.1:Int),.int .i32 x.1.2.2.1,.slice x.2.1 x.2.2.1 x.2.2.2] 331 (0,0))∧Below w0.heap.size w0 wr
def ZgD (L:List Pr)(w0:World)(e:Ending)(w':World):Prop:=∃A c,e= .returned (.slice A L.length c)∧L.length≤c∧Reads w' w'.heap.size 2 A L.length (L.flatMap prV)∧Below w0.heap.size w0 w'
theorem ZuC (w:World)(a b:Value)(T:TypeId):∀j u,[a,b][j]? =some u→(w.alloc (.cells #[a,b] T)).cell? ((⟨w.heap.size,0,none⟩:Addr).add j)=some u:=by
 intro j u hu;rw [addr_eq rfl];show(w.alloc _).cell? ⟨w.heap.size,0+j,none⟩=_
 rw [Nat.zero_add,cell_of_row _ w.heap.size j _ T (0,0) (heap_alloc_new w _)];simpa using hu
def ZjC (L:List Pr)(w0:World)(e:Ending)(w':World):Prop:=∃v,e= .returned v∧w'.ownsRow w0.heap.size 273 2 v L.length (L.flatMap prV)∧Below w0.heap.size w0 w'
theorem ZoQ (A:Option Addr)(c:Nat)(rs:List (Rw×Sl))(hn:rs.length≤35184372089000)(w:World)(h:TbR w w.heap.size A rs):
 Calls Tryz.prog 236 #[.agg #[.slice A rs.length c]] w (ZjC ((rs.map (·.1)).flatMap prs) w):=by
 have htot:=h.total;have hszs:=fun o=>ZpR A c rs hn (w.alloc o) ((h.below ((Below.refl _ _).alloc (Nat.le_refl _) o)).more (by simp));obtain⟨i0,hi,iz0,iz1,iz2⟩:=info_parts Zs2;have hall:ZbF rs rs.length=(rs.map (·.1)).flatMap prs:=by unfold ZbF;rw [List.take_length]
 generalize hP:ZjC ((rs.map (·.1)).flatMap prs) w=P at*;go_enter Tryz.func236,Tryz.ntmps236
 go_wp2_with (first|(go_at_call 302;refine(hszs _).mono ?_;rintro e w1 ⟨rfl,hb1⟩;have HB1:=Zf hb1;have hz1:=Zag hb1;have q1:=Zs (heap_alloc_new w (.cells #[.slice A rs.length c] 211)) hb1;have q2:=cell_of_row _ _ 0 _ _ _ q1;simp at q2)|(at_make;refine wpList_make_own _ rfl _ _ 270 rfl w.heap.size 273 i0 (.agg #[.int .i64 0,.int .i32 0]) 2 Tryz.underlying270 hi iz0 iz1 .i64 .i64 _ (szR rs) rfl rfl rfl (by rw [iz2];omega) (by unfold maxLen;omega) (by omega) ?_;intro w3 hown hgrow;have hz3:=hgrow.size;have q3:=(hgrow.block w.heap.size (by omega) (by simp)).trans q1;have q4:=cell_of_row _ _ 0 _ _ _ q3;simp at q4;have HB3:=HB1.grown hgrow (by omega) (fun k hk=>by cases hk)))
 clear q1 q2 q3 q4 hszs hb1 hgrow;go_loopw [3,13] (fun v i wr=>PaRel rs w v i wr) (fun _ i _=>rs.length - (intOf i).toNat)
 case atStart=>exact⟨0,by omega,rfl,hown,HB3⟩
 case round=>
  obtain⟨k,hk,rfl,ho,hb⟩:=hrel;have hz:=hb.size;by_cases hlt:k<rs.length
  · obtain⟨x,hx⟩:∃x,rs[k]? =some x:=⟨_,List.getElem?_eq_getElem hlt⟩
    obtain⟨ad,rfl,hadb,y0,y1,y2,y3,hok,hsg,_⟩:=(h.below hb).row hx;have hsn:=Znw rs k x hx;have hlen:(ZbF rs k).length+x.1.2.1≤1048576:=by
     have:=congrArg List.length hsn;rw [List.length_append,ZfY,ZuO rs (k+1)] at this;have:=Znn rs (k+1);omega
    have Ho:=Lib.hid ho;have Hsn:=Lib.hid hsn;clear ho hsn;go_wp2_with fail
    clear hall;have hsgw:=(h.2.1 x (List.mem_of_getElem? hx)).2;have hend:=fun v W=>ZcO x.1.1 x.1.2.1 x.1.2.2.1 v hok.2.1 W;have ok1:=hok.1;have ok2:=hok.2.1;clear y0 y1 y2 y3;go_loopw [3,6] (fun v c2 wr2=>PiRel (ZbF rs k) x wr.heap.size w v c2 wr2) (fun _ c2 _=>x.1.1+x.1.2.1 - (intOf c2).toNat)
    case atStart=>exact⟨0,by omega,by simp,by simpa using Ho.out.alloc _,heap_alloc_new wr _,hb.alloc (by omega) _⟩
    case round=>
     obtain⟨j,hj,rfl,ho2,h5,hb2⟩:=hrel;have hz2:=hb2.size;have y0:=cell_of_row _ _ 0 _ _ _ h5;have y1:=cell_of_row _ _ 1 _ _ _ h5;have y2:=cell_of_row _ _ 2 _ _ _ h5;have y3:=cell_of_row _ _ 3 _ _ _ h5;simp at y0 y1 y2 y3;have Ho2:=Lib.hid ho2;have H5:=Lib.hid h5;have hl5:=(Array.getElem?_eq_some_iff.1 h5).1;by_cases hjn:j<x.1.2.1
     · have hln:(ZbF rs k++(prs x.1).take j).length=(ZbF rs k).length+j:=by rw [List.length_append,List.length_take,ZfY];omega
       have hsi:=fun W (hB:Below w.heap.size w W)=>ZjL x (x.1.1+j) hok ⟨by omega,by omega⟩ W ((hsgw.below hB).more hB.size);unfold rV slV at hsi;rw [show x.1.1+j - x.1.1=j by omega] at hsi;have Hln:=Lib.hid hln;have hnx:=Zta x.1 j hjn;have Hnx:=Lib.hid hnx;generalize ZaL x.1 j=sg at*;clear ho2 h5 hln hnx;go_wp2_with (first|(go_at_call 303;refine(hend _ _).mono ?_;rintro e w4 ⟨rfl,hb4⟩;have hz4:=hb4.size;have HB4:=hb2.trans (hb4.mono (by omega));have HO4:=Lib.hid (Zt Ho2.out hb4);have H54:=Lib.hid (Zs H5.out hb4);have z0:=(cell_of_row _ _ 0 _ _ _ H54.out);have z1:=(cell_of_row _ _ 1 _ _ _ H54.out);have z2:=(cell_of_row _ _ 2 _ _ _ H54.out);have z3:=(cell_of_row _ _ 3 _ _ _ H54.out);simp at z0 z1 z2 z3)|(go_at_call 304;refine(hsi _ HB4).mono ?_;rintro e w5 ⟨rfl,hb5⟩;have hz5:=hb5.size;have HB5:=HB4.trans (hb5.mono (by omega));have HO5:=Lib.hid (Zt HO4.out hb5);have H55:=Lib.hid (Zs H54.out hb5))|(at_builtin;refine wpList_append_own _ rfl _ _ 270 rfl w.heap.size 273 i0 _ 2 16 Tryz.underlying270 hi iz0 iz1 iz2 rfl (by decide) _ _ _ rfl (HO5.out.alloc _) ⟨w5.heap.size,0,none⟩ 1 1 [.int .i64 ((x.1.1:Int)+j),.int .i32 sg] rfl rfl ?d1 ?d2 ?d3 ?d4 ?d5 ?_))
       case d1=>exact ZuC w5 _ _ _
       case d2=>intro u hu;simp only [List.mem_cons,List.not_mem_nil,or_false] at hu;rcases hu with rfl|rfl<;>rfl
       case d3=>have:=Hln.out;unfold maxLen;omega
       case d4=>have:=Hln.out;omega
       case d5=>simp;omega
       intro v6 w6 hown6 hg6 h06;have HB6:=Z3 (HB5.alloc (by omega) (.cells #[.int .i64 ((x.1.1:Int)+j),.int .i32 sg] 273)) (HO5.out.alloc _) hg6 (by simp;omega) (Nat.le_refl _);have hl6:=(Array.getElem?_eq_some_iff.1 H55.out).1;have h55:=(Below.heap_alloc w5 (.cells #[.int .i64 ((x.1.1:Int)+j),.int .i32 sg] 273) _ hl6).trans H55.out;have H56:=Lib.hid ((hg6.block _ (by simp;omega) (ZfE (HO5.out.alloc _) h55 (by decide))).trans h55);clear h55;have Hown6:=Lib.hid hown6;clear hown6 hg6 h06;go_wp2_with fail
       refine⟨⟨j+1,by omega,by simp;omega,?_,H56.out,HB6⟩,by simp [intOf];omega⟩;have:=Hown6.out;rw [Hnx.out,←List.append_assoc,List.flatMap_append,List.length_append];simpa [prV] using this
     · obtain rfl:j=x.1.2.1:=by omega
       rw [List.take_of_length_le (by rw [ZfY];omega),←Hsn.out] at ho2;have Ho3:=Lib.hid ho2;clear ho2 h5;go_wp2_with (go_at_call 303;refine(hend _ _).mono ?_;rintro e w4 ⟨rfl,hb4⟩;have hz4:=hb4.size;have HB4:=hb2.trans (hb4.mono (by omega));have H54:=Lib.hid (Zs H5.out hb4);have z0:=(cell_of_row _ _ 0 _ _ _ H54.out);have z1:=(cell_of_row _ _ 1 _ _ _ H54.out);have z2:=(cell_of_row _ _ 2 _ _ _ H54.out);have z3:=(cell_of_row _ _ 3 _ _ _ H54.out);simp at z0 z1 z2 z3)
       refine⟨⟨k+1,by omega,by simp,Zt Ho3.out hb4,HB4⟩,by simp [intOf];omega⟩
  · obtain rfl:k=rs.length:=by omega
    rw [hall] at ho;obtain⟨A3,c3,rfl,hc3,hr3⟩:=Reads.of_own ho;have Hr3:=Lib.hid ho;clear ho hr3;go_wp2_with fail
    show P (.returned (.slice A3 ((rs.map (·.1)).flatMap prs).length c3)) wr
    rw [←hP];exact⟨_,rfl,Hr3.out,hb⟩
theorem Zjz (A:Option Addr)(c:Nat)(rs:List (Rw×Sl))(hn:rs.length≤35184372089000)(w:World)(h:TbR w w.heap.size A rs):
 Calls Tryz.prog 236 #[.agg #[.slice A rs.length c]] w (ZgD ((rs.map (·.1)).flatMap prs) w):=
 (ZoQ A c rs hn w h).mono fun e w' ⟨v,h1,h2,h3⟩=>by
  obtain⟨A3,c3,rfl,h4,h5⟩:=Reads.of_own h2;exact⟨A3,c3,h1,h4,h5,h3⟩
def Zq (rs:List (Rw×Sl)):List Pr:=(rs.map (·.1)).flatMap prs
theorem ZeC {rs:List (Rw×Sl)} {y:Pr}:y∈Zq rs↔∃x∈rs,y∈prs x.1:=by
 unfold Zq;rw [List.mem_flatMap];constructor
 · rintro⟨r,hr,hy⟩;obtain⟨x,hx,rfl⟩:=List.mem_map.1 hr;exact⟨x,hx,hy⟩
 · rintro⟨x,hx,hy⟩;exact⟨x.1,List.mem_map_of_mem hx,hy⟩
theorem hasT {rs:List (Rw×Sl)} {c:Nat}:Zae (Zq rs) c=true↔∃x∈rs,x.1.1≤c∧c<x.1.1+x.1.2.1:=by
 rw [Zey];constructor
 · rintro⟨y,hy,rfl⟩;obtain⟨x,hx,h⟩:=ZeC.1 hy;have:=ZbB.1 h;exact⟨x,hx,this.1,this.2.1⟩
 · rintro⟨x,hx,h1,h2⟩;exact⟨(c,ZaL x.1 (c - x.1.1)),ZeC.2 ⟨x,hx,ZbB.2 ⟨h1,h2,rfl⟩⟩,rfl⟩
def Zay (ts:List (Rw×Sl))(done:Pr→Prop)(ps:List (Rw×Sl))(cur:Nat):Prop:=
 (∀y,(∃x∈ps,y∈prs x.1)↔done y∧Zae (Zq ts) y.1=false)∧((ps.map (·.1)).Pairwise fun a b=>a.1+a.2.1≤b.1)∧(∀x∈ps,x.1.1+x.1.2.1≤cur)∧∀x∈ps,ZaC x.1
section
variable {ts ps:List (Rw×Sl)} {done:Pr→Prop} {cur:Nat}
theorem Zay.mem (h:Zay ts done ps cur):∀y,(∃x∈ps,y∈prs x.1)↔done y∧Zae (Zq ts) y.1=false:=h.1
theorem Zay.asc (h:Zay ts done ps cur):(ps.map (·.1)).Pairwise fun a b=>a.1+a.2.1≤b.1:=h.2.1
theorem Zay.le (h:Zay ts done ps cur):∀x∈ps,x.1.1+x.1.2.1≤cur:=h.2.2.1
theorem Zay.ok (h:Zay ts done ps cur):∀x∈ps,ZaC x.1:=h.2.2.2
end
theorem ov_nil (ts:List (Rw×Sl))(cur:Nat):Zay ts (fun _=>False) [] cur:=⟨by simp,by simp,by simp,by simp⟩
theorem Zay.more {ts:List (Rw×Sl)} {d d':Pr→Prop} {ps:List (Rw×Sl)} {cur cur':Nat} (h:Zay ts d ps cur)(hd:∀y,Zae (Zq ts) y.1=false→(d y↔d' y))(hc:cur≤cur'):Zay ts d' ps cur':=
 ⟨fun y=>by rw [h.mem];constructor<;>(rintro⟨a,b⟩;exact⟨by first|exact(hd y b).1 a|exact(hd y b).2 a,b⟩),h.asc,fun x hx=>Nat.le_trans (h.le x hx) hc,h.ok⟩
theorem Zay.part {ts:List (Rw×Sl)} {d:Pr→Prop} {ps:List (Rw×Sl)} {a b:Nat} {r:Rw} {q:Sl} (h:Zay ts d ps a)(hr:ZaC r)(h1:r.1≤a)(h2:a<b)(h3:b≤r.1+r.2.1)(hn:∀c,a≤c→c<b→Zae (Zq ts) c=false):
 Zay ts (fun y=>d y∨(y∈prs r∧a≤y.1∧y.1<b)) (ps++[(ZE r a b,q)]) b:=by
 refine⟨fun y=> ?_,?_,fun x hx=> ?_,fun x hx=> ?_⟩
 · constructor
   · rintro⟨x,hx,hy⟩;rcases List.mem_append.1 hx with hx|hx
     · have:=(h.mem y).1 ⟨x,hx,hy⟩;exact⟨.inl this.1,this.2⟩
     · simp only [List.mem_singleton] at hx;subst hx;have:=(Zmq h1 h3).1 hy;exact⟨.inr ⟨this.2.2,this.1,this.2.1⟩,hn _ this.1 this.2.1⟩
   · rintro⟨hy|⟨hy,h4,h5⟩,hc⟩
     · obtain⟨x,hx,hyx⟩:=(h.mem y).2 ⟨hy,hc⟩;exact⟨x,by simp [hx],hyx⟩
     · exact⟨_,List.mem_append_right _ (List.mem_singleton.2 rfl),(Zmq h1 h3).2 ⟨h4,h5,hy⟩⟩
 · rw [List.map_append,List.pairwise_append];refine⟨h.asc,by simp,fun x hx y hy=> ?_⟩;simp only [List.map_cons,List.map_nil,List.mem_singleton] at hy;subst hy;obtain⟨z,hz,rfl⟩:=List.mem_map.1 hx;exact h.le z hz
 · rcases List.mem_append.1 hx with hx|hx
   · have:=h.le x hx;omega
   · simp only [List.mem_singleton] at hx;subst hx;show a+(b - a)≤b
     omega
 · rcases List.mem_append.1 hx with hx|hx
   · exact h.ok x hx
   · simp only [List.mem_singleton] at hx;subst hx;exact ZfV hr h1 h2 h3
theorem ov_end {ts os ps rs:List (Rw×Sl)} {cur:Nat} (ht:Zdd (ts.map (·.1)))(ho:Zdd (os.map (·.1)))(h:Zay ts (fun y=>y∈Zq os) ps cur)(hp:rs.Perm (ts++ps))(hs:rs.Pairwise fun a b=>a.1.1≤b.1.1):
 Zdd (rs.map (·.1))∧Zq rs=ZdA (Zq ts) (Zq os):=by
 have hok:∀x∈rs,ZaC x.1:=fun x hx=>by
  rcases List.mem_append.1 (hp.mem_iff.1 hx) with h1|h1
  · exact ht.2 _ (List.mem_map_of_mem h1)
  · exact h.ok x h1
 have hap:((ts++ps).map (·.1)).Pairwise Zb6:=by
  rw [List.map_append,List.pairwise_append];refine⟨ht.1.imp fun h=> .inl h,h.asc.imp fun h=> .inl h,fun a ha b hb=> ?_⟩;obtain⟨x,hx,rfl⟩:=List.mem_map.1 ha;obtain⟨y,hy,rfl⟩:=List.mem_map.1 hb;have hx1:=(ht.2 _ (List.mem_map_of_mem (f:=(·.1)) hx)).1;have hy1:=(h.ok y hy).1;unfold Zb6;rcases Nat.lt_or_ge (max x.1.1 y.1.1) (x.1.1+x.1.2.1) with h1|h1
  · rcases Nat.lt_or_ge (max x.1.1 y.1.1) (y.1.1+y.1.2.1) with h2|h2
    · have:=((h.mem (max x.1.1 y.1.1,ZaL y.1 (max x.1.1 y.1.1 - y.1.1))).1 ⟨y,hy,ZbB.2 ⟨by simp;omega,by simp;omega,rfl⟩⟩).2;have h3:Zae (Zq ts) (max x.1.1 y.1.1)=true:=hasT.2 ⟨x,hx,by omega,h1⟩;simp only at this;rw [h3] at this;cases this
    · omega
  · omega
 have hap2:(rs.map (·.1)).Pairwise Zb6:=by
  refine((hp.map _).pairwise_iff ?_).2 hap;intro a b h;unfold Zb6 at*;omega
 have hasc:(rs.map (·.1)).Pairwise fun a b=>a.1+a.2.1≤b.1:=by
  have hs2:(rs.map (·.1)).Pairwise fun a b=>a.1≤b.1:=by rw [List.pairwise_map];exact hs
  refine(hs2.and hap2).imp_of_mem ?_;intro a b hma hmb h;obtain⟨h1,h2⟩:=h;obtain⟨x,hx,rfl⟩:=List.mem_map.1 hmb;have:=(hok x hx).1;unfold Zb6 at h2;omega
 have hro:Zdd (rs.map (·.1)):=⟨hasc,fun r hr=>by obtain⟨x,hx,rfl⟩:=List.mem_map.1 hr;exact hok x hx⟩
 refine⟨hro,ZsV (ZeK _ ht.1) (ZeK _ ho.1) (ZeK _ hasc) fun y=> ?_⟩;rw [show y∈Zq rs↔∃x∈rs,y∈prs x.1 from ZeC];constructor
 · rintro⟨x,hx,hy⟩;rcases List.mem_append.1 (hp.mem_iff.1 hx) with h1|h1
   · exact .inl (ZeC.2 ⟨x,h1,hy⟩)
   · exact .inr ((h.mem y).1 ⟨x,h1,hy⟩)
 · rintro(h1|h1)
   · obtain⟨x,hx,hy⟩:=ZeC.1 h1;exact⟨x,hp.mem_iff.2 (List.mem_append_left _ hx),hy⟩
   · obtain⟨x,hx,hy⟩:=(h.mem y).2 h1;exact⟨x,hp.mem_iff.2 (List.mem_append_right _ hx),hy⟩
theorem Zn2 (A:Option Addr)(c:Nat)(ts:List (Rw×Sl))(hn:ts.length≤10000000)(B:Nat)(w:World)(h:Zb8 w B A ts):
 Calls Tryz.prog 343 #[.slice A ts.length c] w fun e w'=>∃v,e= .returned v∧w'.ownsRow w.heap.size 331 4 v ts.length (ts.flatMap rV)∧Below w.heap.size w w':=by
 obtain⟨i0,hi,iz0,iz1,iz2⟩:=info_parts Zif;cases A with
 |none=>
  have h0:ts=[]:=by
   rcases Nat.eq_zero_or_pos ts.length with h1|h1
   · exact List.eq_nil_of_length_eq_zero h1
   · obtain⟨ad,hA,_⟩:=h.1.2 h1;cases hA
  subst h0;have:=AnyE.slices_Clone_nil Tryz.laysClone 0 c w;change Calls Tryz.prog 343 _ _ _ at this
  refine this.mono ?_;rintro e w' ⟨rfl,rfl⟩;exact⟨_,rfl,World.ownsRow_nil _ _ _ _,Below.refl _ _⟩
 |some ad=>
  obtain⟨bk,off,sp⟩:=ad;obtain rfl:sp=none:=h.2 _ rfl;have hl:=Zev rV ZdB ts;have hc:∀j u,(ts.flatMap rV)[j]? =some u→w.cell? ⟨bk,off+j,none⟩=some u:=fun j u hu=>by
   have hj:0<ts.length:=by
    rcases Nat.eq_zero_or_pos ts.length with h1|h1
    · rw [List.getElem?_eq_none (by omega)] at hu;cases hu
    · exact h1
   obtain⟨ad,hA,_,hc⟩:=h.1.2 hj;injection hA with hA
   subst hA;have:=hc j u hu
   rwa [addr_eq rfl] at this
  have:=AnyE.slices_Clone Tryz.laysClone i0 _ 4 48 hi iz0 iz1 iz2 rfl (by decide) Tryz.sizeOf331 bk off ts.length c (ts.flatMap rV) w hl (by unfold maxLen;omega) (by omega) hc (fun u hu=>by
   obtain⟨x,_,hx⟩:=List.mem_flatMap.1 hu;exact ZmF x u hx)
  change Calls Tryz.prog 343 _ _ _ at this
  refine this.mono ?_;rintro e w' ⟨v,rfl,h1,_,h3⟩;exact⟨v,rfl,h1,h3⟩
section
variable {P:Program}
theorem Zj3 (w:World)(base:Nat)(t ty e:TypeId)(i:TypeInfo)(z:Value)(size bytes:Nat)(ht:P.underlying t=some (.slice e))(hi:P.info? e=some i)(hz:i.zero=some z)(hsize:i.size=size)(hby:i.bytes=bytes)(hzs:z.cells.size=size)(hsz:0<size)
 (v:Value) (n:Nat) (xs:List Value) (hown:w.ownsRow base e size v n xs) (ad:Addr) (m c:Nat) (news:List Value) (hl:news.length=m*size) (hnews:∀j u,news[j]? =some u→w.cell? (ad.add j)=some u) (h1:∀u∈news,u.oneCell'=true)
 (h63:n+m≤maxLen) (hbytes:(n+m)*bytes≤140737488355328) (hbase:base≤w.heap.size):
 ∃v' w',(Builtin.append_ #[t,t] ty #[v,.slice (some ad) m c]).run P w= .ok v' w'∧w'.ownsRow base e size v' (n+m) (xs++news)∧w.grownBy w' v.ownBlock∧(v'.ownBlock=v.ownBlock∨v'.ownBlock=some w.heap.size):=by
 obtain⟨v',w',hr,h2,h3,h4⟩:=run_append_own (P:=P) w base t ty e i z size bytes ht hi hz hsize hby hzs hsz v n xs hown ad m c news hl hnews h1 h63 hbytes hbase;refine⟨v',w',hr,h2,h3,?_⟩;subst hsize;subst hby;have hml:n+m≤9223372036854775807:=by unfold maxLen at h63;omega
 rcases hown.2 with⟨rfl,rfl⟩|⟨g,cap,cur,rfl,hbg,hg,hnc,hcm,hcs,htake⟩
 · by_cases hm:m=0
   · exact .inl (by rw [h4.2 ⟨rfl,hm⟩])
   · have hx:xs=[]:=List.eq_nil_of_length_eq_zero (by simpa using hown.1);have hr2:=run_append_nil (P:=P) w t ty e i z ht hi hz ad m c news hl hnews (by omega) (by omega) (by have hb:=hbytes;simp only [Nat.zero_add] at hb;omega);rw [hr] at hr2;injection hr2 with hv _
     exact .inr (by rw [hv];rfl)
 · by_cases hroom:n+m≤cap
   · have hfit:n*i.size+news.length≤cur.size:=by rw [hl,hcs,←Nat.add_mul];exact Nat.mul_le_mul_right _ hroom
     have hr2:=run_append_room (P:=P) w t ty e i ht hi g n cap cur hg ad m c news hl hnews h1 hroom hfit;rw [hr] at hr2;injection hr2 with hv _
     exact .inl (by rw [hv];rfl)
   · have holds:∀j u,xs[j]? =some u→w.cell? ((⟨g,0,none⟩:Addr).add j)=some u:=hown.cells (g:=g) rfl;have hr2:=run_append_grow (P:=P) w t ty e i z ht hi hz ⟨g,0,none⟩ n cap xs hown.1 holds ad m c news hl hnews (by omega) (by omega) (growslice_fits (by omega) hbytes);rw [hr] at hr2;injection hr2 with hv _
     exact .inr (by rw [hv];rfl)
end
def W3 (w:World)(a b:Value):World:=((w.alloc (.cells #[a] 211)).alloc (.cells #[b] 211)).alloc (.cells #[.slice none 0 0] 211)
theorem ZiQ (w:World)(a b:Value):(W3 w a b).heap.size=w.heap.size+3:=by simp [W3]
theorem Zj7 {w W:World} {a b:Value} (h:Below (w.heap.size+3) (W3 w a b) W):Below w.heap.size w W:=
 (((((Below.refl _ w).alloc (Nat.le_refl _) _).alloc (by simp) _).alloc (by simp;omega) _).trans (by unfold W3 at h;exact h.mono (by omega)))
theorem ZsT {w W:World} {a b:Value} (h:Below (w.heap.size+3) (W3 w a b) W):W.cell? ⟨w.heap.size,0,none⟩=some a∧W.cell? ⟨w.heap.size+1,0,none⟩=some b∧W.cell? ⟨w.heap.size+2,0,none⟩=some (.slice none 0 0)∧W.frozen? ⟨w.heap.size+2,0,none⟩=false∧W.heap[w.heap.size+2]? =some (.cells #[.slice none 0 0] 211 (0,0))∧w.heap.size+2<W.heap.size:=by
 have hs:=h.size;rw [ZiQ] at hs;have h2:Below ((w.alloc (.cells #[a] 211)).alloc (.cells #[b] 211)).heap.size ((w.alloc (.cells #[a] 211)).alloc (.cells #[b] 211)) W:=Zf (by unfold W3 at h;simpa using h);obtain⟨b1,_,_⟩:=bx h2;obtain⟨a1,_,_⟩:=bx (Zf h2);have h3:Below (W3 w a b).heap.size (W3 w a b) W:=by rw [ZiQ];exact h
 unfold W3 at h3;obtain⟨c1,c2,_⟩:=bx h3;have hh:=Zs (heap_alloc_new ((w.alloc (.cells #[a] 211)).alloc (.cells #[b] 211)) (.cells #[.slice none 0 0] 211)) h3;simp only [World.size_alloc] at b1 c1 c2 hh;exact⟨a1 0,b1 0,c1 0,c2 0,hh,by omega⟩
def RowC (W:World)(ad:Addr)(k:Nat)(x:Rw×Sl):Prop:=W.cell? (ad.add (k*4))=some (.int .i64 (x.1.1:Int))∧W.cell? ⟨(ad.add (k*4)).block,(ad.add (k*4)).off+1,none⟩=some (.int .i64 (x.1.2.1:Int))∧W.cell? ⟨(ad.add (k*4)).block,(ad.add (k*4)).off+2,none⟩=some (.int .i32 x.1.2.2.1)∧W.cell? ⟨(ad.add (k*4)).block,(ad.add (k*4)).off+3,none⟩=some (.slice x.2.1 x.2.2.1 x.2.2.2)
theorem RowC.step {W W':World} {ad:Addr} {k:Nat} {x:Rw×Sl} (h:RowC W ad k x)(hb:Below W.heap.size W W'):RowC W' ad k x:=by
 obtain⟨h1,h2,h3,h4⟩:=h;have hk:∀{a:Addr} {v:Value},W.cell? a=some v→W'.cell? a=some v:=fun{a v} e=>(hb.cell (World.block_lt_of_cell? _ _ e)).trans e;exact⟨hk h1,hk h2,hk h3,hk h4⟩
theorem TbR.rowC {w:World} {B:Nat} {A:Option Addr} {rs:List (Rw×Sl)} (h:TbR w B A rs){k:Nat} {x:Rw×Sl} (hk:rs[k]? =some x):∃ad,A=some ad∧RowC w ad k x∧ZaC x.1∧ZI w B x:=by
 obtain⟨ad,h1,_,h2,h3,h4,h5,h6,h7,_⟩:=h.row hk;exact⟨ad,h1,⟨h2,h3,h4,h5⟩,h6,h7⟩
def OvW (base:Nat)(W0:World)(v5:Value)(ts ps:List (Rw×Sl))(wr:World):Prop:=wr.ownsRow base 331 4 v5 (ts++ps).length ((ts++ps).flatMap rV)∧(∀x∈ps,ZI wr wr.heap.size x)∧Below base W0 wr∧base≤wr.heap.size
theorem OvW.step {base:Nat} {W0:World} {v5:Value} {ts ps:List (Rw×Sl)} {wr w':World} (h:OvW base W0 v5 ts ps wr)(hb:Below wr.heap.size wr w'):OvW base W0 v5 ts ps w':=by
 obtain⟨h1,h2,h3,h4⟩:=h;have:=hb.size;exact⟨Zt h1 hb,fun x hx=>((h2 x hx).below hb).more hb.size,h3.trans (hb.mono h4),by omega⟩
theorem OvW.alloc {base:Nat} {W0:World} {v5:Value} {ts ps:List (Rw×Sl)} {wr:World} (h:OvW base W0 v5 ts ps wr)(o:Obj):OvW base W0 v5 ts ps (wr.alloc o):=h.step ((Below.refl _ _).alloc (Nat.le_refl _) o)
def R8 (W:World)(B8:Nat)(x:Rw×Sl):Prop:=W.heap[B8]? =some (.cells #[.int .i64 (x.1.1:Int),.int .i64 (x.1.2.1:Int),.int .i32 x.1.2.2.1,.slice x.2.1 x.2.2.1 x.2.2.2] 331 (0,0))
theorem R8.cells {W:World} {B8:Nat} {x:Rw×Sl} (h:R8 W B8 x):W.cell? ⟨B8,0,none⟩=some (.int .i64 (x.1.1:Int))∧W.cell? ⟨B8,1,none⟩=some (.int .i64 (x.1.2.1:Int))∧W.cell? ⟨B8,2,none⟩=some (.int .i32 x.1.2.2.1)∧W.cell? ⟨B8,3,none⟩=some (.slice x.2.1 x.2.2.1 x.2.2.2):=by
 refine⟨?_,?_,?_,?_⟩<;>(rw [cell_of_row _ B8 _ _ _ _ h];rfl)
def Ends (ts:List (Rw×Sl))(pt cur:Nat):Prop:=pt≤ts.length∧∀j x,j<pt→ts[j]? =some x→x.1.1+x.1.2.1≤cur
def OuRel (base:Nat)(W0:World)(ts os:List (Rw×Sl))(v5 i k:Value)(wr:World):Prop:=∃(kn pt lo:Nat) (ps:List (Rw×Sl)),kn≤os.length∧k= .int .i64 kn∧i= .int .i64 pt∧Ends ts pt lo∧(∀j y,kn≤j→os[j]? =some y→lo≤y.1.1)∧Zay ts (fun y=>y∈Zq (os.take kn)) ps lo∧ps.length≤lo∧lo≤1048576∧OvW base W0 v5 ts ps wr
def MiRel (base:Nat)(W0:World)(ts os:List (Rw×Sl))(kn:Nat)(x0:Rw×Sl)(B8:Nat)(v5 i f:Value)(wr:World):Prop:=∃(cur pt:Nat) (ps:List (Rw×Sl)),f= .int .i64 cur∧i= .int .i64 pt∧x0.1.1≤cur∧cur≤x0.1.1+x0.1.2.1∧Ends ts pt cur∧Zay ts (fun y=>y∈Zq (os.take kn)∨(y∈prs x0.1∧y.1<cur)) ps cur∧ps.length≤cur∧OvW base W0 v5 ts ps wr∧R8 wr B8 x0∧some B8≠v5.ownBlock
def InRel (base:Nat)(W0:World)(ts ps:List (Rw×Sl))(x0:Rw×Sl)(B8 cur:Nat)(v5 i:Value)(wr:World):Prop:=∃pt:Nat,i= .int .i64 pt∧Ends ts pt cur∧OvW base W0 v5 ts ps wr∧R8 wr B8 x0
theorem TbR.fr_mono {w:World} {B:Nat} {A:Option Addr} {rs:List (Rw×Sl)} (h:TbR w B A rs){a b:Nat} {x y:Rw×Sl} (hx:rs[a]? =some x)(hy:rs[b]? =some y)(hab:a<b):x.1.1+x.1.2.1≤y.1.1:=by
 have hp:=h.2.2.1;rw [List.pairwise_map,List.pairwise_iff_getElem] at hp;obtain⟨ha,rfl⟩:=List.getElem?_eq_some_iff.1 hx;obtain⟨hb,rfl⟩:=List.getElem?_eq_some_iff.1 hy;exact hp a b ha hb hab
theorem Zm6 {w:World} {B g:Nat} {x:Rw×Sl} (h:ZI w B x)(a:Value){T1:TypeId} {c1:Array Value} (h1:w.heap[g]? =some (.cells c1 T1 (0,0)))(n1:T1≠21):ZI (w.setCell ⟨g,0,none⟩ a) B x:=
 h.keep fun k _ ⟨cs,fr,hh⟩=>heap_set (by
  rintro rfl;rw [hh] at h1;injection h1 with h1;injection h1 with _ h1 _;exact n1 h1.symm) a
theorem Ztd {w:World} {A:Option Addr} {rs:List (Rw×Sl)} {g base:Nat} (h:Zb8 w w.heap.size A rs)(hA:∀ad,A=some ad→base≤ad.block)(h1:g<base)(a:Value):Zb8 (w.setCell ⟨g,0,none⟩ a) w.heap.size A rs:=by
 refine⟨⟨h.1.1,fun h0=> ?_⟩,h.2⟩;obtain⟨ad,hA2,hb,hc⟩:=h.1.2 h0;have hba:=hA ad hA2;refine⟨ad,hA2,hb,fun j u hu=> ?_⟩;have hbk:(ad.add j).block=ad.block:=by unfold Addr.add;split<;>rfl
 rw [ZbJ (by omega)];exact hc j u hu
def Zjx (ts os:List (Rw×Sl))(w0:World)(e:Ending)(w':World):Prop:=∃A c rs,e= .returned (.agg #[.slice A rs.length c])∧rs.length≤c∧rs.length≤ts.length+1048576∧TbR w' w'.heap.size A rs∧Zq rs=ZdA (Zq ts) (Zq os)∧Below w0.heap.size w0 w'
theorem ZoO (At Ao:Option Addr)(ct co:Nat)(ts os:List (Rw×Sl))(hnt:ts.length≤8388608)(hno:os.length≤8388608)(w:World)(ht:TbR w w.heap.size At ts)(ho:TbR w w.heap.size Ao os):
 Calls Tryz.prog 301 #[.agg #[.slice At ts.length ct],.agg #[.slice Ao os.length co]] w (Zjx ts os w):=by
 obtain⟨i0,hi,iz0,iz1,iz2⟩:=info_parts Zif;generalize hP:Zjx ts os w=P at*;obtain⟨W,hW⟩:∃W,W=W3 w (.slice At ts.length ct) (.slice Ao os.length co):=⟨_,rfl⟩
 have hcl:=Zn2 At ct ts (by omega) w.heap.size W ((ht.below (Zj7 (by rw [hW];exact Below.refl _ _))).1);have hbx:∀wr,Below (w.heap.size+3) W wr→wr.cell? ⟨w.heap.size,0,none⟩=some (.slice At ts.length ct)∧wr.cell? ⟨w.heap.size+1,0,none⟩=some (.slice Ao os.length co)∧wr.cell? ⟨w.heap.size+2,0,none⟩=some (.slice none 0 0)∧wr.frozen? ⟨w.heap.size+2,0,none⟩=false∧wr.heap[w.heap.size+2]? =some (.cells #[.slice none 0 0] 211 (0,0))∧w.heap.size+2<wr.heap.size:=fun wr h=>ZsT (by rw [←hW];exact h);have hbw:∀wr,Below (w.heap.size+3) W wr→Below w.heap.size w wr:=fun wr h=>Zj7 (by rw [←hW];exact h);have hWs:W.heap.size=w.heap.size+3:=by rw [hW,ZiQ]
 have hcl2:∀w',w'=W→Calls Tryz.prog 343 #[.slice At ts.length ct] w' fun e w1=>∃v,e= .returned v∧OvW (w.heap.size+3) W v ts [] w1:=fun w' h=>by
  subst h;refine hcl.mono ?_;rintro e w1 ⟨v,rfl,h1,h2⟩;rw [hWs] at h1 h2;have:=h2.size;exact⟨v,rfl,by simpa using h1,by simp,h2,by omega⟩
 unfold W3 at hW;have hcl3:=hcl2 _ hW.symm;clear hcl hcl2 hW;go_enter Tryz.func301,Tryz.ntmps301
 go_wp2_with (go_at_call 343;refine hcl3.mono ?_;rintro e w1 ⟨v5,rfl,hv0⟩;obtain⟨k0,k1,_,_,_,_⟩:=hbx _ hv0.2.2.1)
 go_loopw [5,6,17] (fun v i k wr=>OuRel (w.heap.size+3) W ts os v i k wr) (fun _ _ k _=>os.length - (intOf k).toNat)
 case atStart=>exact⟨0,0,0,[],by omega,rfl,rfl,⟨by omega,fun j x hj=>by omega⟩,fun _ _ _ _=>Nat.zero_le _,(ov_nil ts 0).more (fun y _=>by simp [Zq]) (Nat.le_refl _),by simp,by omega,hv0⟩
 case round=>
  obtain⟨kn,pt,lo,ps,hkn,rfl,rfl,hE,hlow,hov,hpl,hlo,hv⟩:=hrel;have hvb:=hv.2.2.2;obtain⟨k0',k1',k2',k3',k4',k5'⟩:=hbx _ hv.2.2.1;by_cases hlt:kn<os.length
  · obtain⟨x0,hx0⟩:∃x,os[kn]? =some x:=⟨_,List.getElem?_eq_getElem hlt⟩
    obtain⟨ado,rfl,⟨q0,q1,q2,q3⟩,hok0,_⟩:=(ho.below (hbw _ hv.2.2.1)).rowC hx0;have okr:x0.1.1+x0.1.2.1≤1048576:=hok0.2.1;have okn:1≤x0.1.2.1:=hok0.1;have hlx:=hlow kn x0 (Nat.le_refl _) hx0;have htk:∀y,y∈Zq (os.take (kn+1))↔y∈Zq (os.take kn)∨y∈prs x0.1:=fun y=>by
     have:=Znw os kn x0 hx0;unfold ZbF at this;rw [show Zq (os.take (kn+1))=Zq (os.take kn)++prs x0.1 from this,List.mem_append]
    have Htk:=Lib.hid htk;have Hlow:=Lib.hid hlow;have HV:=Lib.hid hv;have HOV:=Lib.hid hov;have HE:=Lib.hid hE;have hv8:=fun o=>hv.alloc o;have h8:R8 (wr.alloc (.cells #[.int .i64 (x0.1.1:Int),.int .i64 (x0.1.2.1:Int),.int .i32 x0.1.2.2.1,.slice x0.2.1 x0.2.2.1 x0.2.2.2] 331)) wr.heap.size x0:=heap_alloc_new wr _;have H80:=Lib.hid h8;have HNE:=Lib.hid (show some wr.heap.size≠u5.ownBlock from fun e=>by have:=(hv.1.lt wr.heap.size e.symm).2;omega);have HV8:=Lib.hid hv8;clear htk hlow hv hov hE h8 hv8 k0 k1;go_wp2_with fail
    generalize hB8:wr.heap.size=B8 at*;go_loopw [5,6,9] (fun v i f wr2=>MiRel (w.heap.size+3) W ts os kn x0 B8 v i f wr2) (fun _ _ f _=>x0.1.1+x0.1.2.1 - (intOf f).toNat)
    case atStart=>exact⟨x0.1.1,pt,ps,rfl,rfl,Nat.le_refl _,by omega,⟨HE.out.1,fun j x h1 h2=>Nat.le_trans (HE.out.2 j x h1 h2) hlx⟩,HOV.out.more (fun y _=>⟨fun h=> .inl h,fun h=>h.elim id (fun h=>by have:=(ZbB.1 h.1).1;omega)⟩) hlx,by omega,HV8.out _,H80.out,HNE.out⟩
    case round=>
     clear hlx hpl;obtain⟨cur,pt,ps,rfl,rfl,hc1,hc2,hE,hov,hpl,hv,h8,hne5⟩:=hrel;have HNE:=Lib.hid hne5;clear hne5;obtain⟨z0,z1,z2,z3⟩:=h8.cells;have HV:=Lib.hid hv;have H8:=Lib.hid h8;have HE:=Lib.hid hE;have HOV:=Lib.hid hov;clear hv h8 hE hov;by_cases hcur:cur<x0.1.1+x0.1.2.1
     · have hcuri:(cur:Int)<(x0.1.1:Int)+x0.1.2.1:=by omega
       go_wp2_with (go_at_call 303;refine(ZcO _ _ _ _ (by assumption) _).mono ?_;rintro e w4 ⟨rfl,hb4⟩;have HV:=Lib.hid (HV.out.step hb4);have H8:=Lib.hid (show R8 w4 B8 x0 from Zs H8.out hb4);obtain⟨z0,z1,z2,z3⟩:=H8.out.cells;obtain⟨kt,_,_,_,_,_⟩:=hbx _ HV.out.2.2.1)
       go_loopw [6] (fun i wr3=>InRel (w.heap.size+3) W ts ps x0 B8 cur u5 i wr3) (fun i _=>ts.length - (intOf i).toNat)
       case atStart=>exact⟨pt,rfl,HE.out,HV.out,H8.out⟩
       case round=>
        obtain⟨pt,rfl,hE,hv,h8⟩:=hrel;obtain⟨z0,z1,z2,z3⟩:=h8.cells;obtain⟨kt,_,_,_,_,_⟩:=hbx _ hv.2.2.1;have hov:=HOV.out;have HV:=Lib.hid hv;have H8:=Lib.hid h8;have HEi:=Lib.hid hE;by_cases hpt:pt<ts.length
        · obtain⟨y,hy⟩:∃y,ts[pt]? =some y:=⟨_,List.getElem?_eq_getElem hpt⟩
          obtain⟨adt,hAt,hyc,hoky,_⟩:=(ht.below (hbw _ hv.2.2.1)).rowC hy;subst hAt;have oky:y.1.1+y.1.2.1≤1048576:=hoky.2.1;have okyn:1≤y.1.2.1:=hoky.1;obtain⟨y0,y1,y2,y3⟩:=hyc;have HY:=Lib.hid (show RowC _ adt pt y from⟨y0,y1,y2,y3⟩);by_cases hle:y.1.1+y.1.2.1≤cur
          · have hlei:(y.1.1:Int)+y.1.2.1≤(cur:Int):=by omega
            have hE2:Ends ts (pt+1) cur:=⟨by omega,fun j x h1 h2=>by
             rcases Nat.lt_or_ge j pt with h3|h3
             · exact hE.2 j x h3 h2
             · obtain rfl:j=pt:=by omega
               rw [hy] at h2;injection h2 with h2;subst h2;exact hle⟩
            have HE2:=Lib.hid hE2;clear hE hv h8 hov hE2;go_wp2_with (go_at_call 303;refine(ZcO _ _ _ _ (by assumption) _).mono ?_;rintro e w4 ⟨rfl,hb4⟩;have HV:=Lib.hid (HV.out.step hb4);have H8:=Lib.hid (show R8 w4 B8 x0 from Zs H8.out hb4);obtain⟨z0,z1,z2,z3⟩:=H8.out.cells;obtain⟨kt,_,_,_,_,_⟩:=hbx _ HV.out.2.2.1;have HY:=Lib.hid (HY.out.step hb4);obtain⟨y0,y1,y2,y3⟩:=HY.out)
            refine⟨⟨pt+1,by simp,HE2.out,HV.out,H8.out⟩,by simp [intOf];omega⟩
          · have hlei:¬(y.1.1:Int)+y.1.2.1≤(cur:Int):=by omega
            by_cases hfy:y.1.1≤cur
            · have hfyi:(y.1.1:Int)≤(cur:Int):=by omega
              obtain⟨mn,hmn⟩:∃m:Nat,m=min (x0.1.1+x0.1.2.1) (y.1.1+y.1.2.1):=⟨_,rfl⟩
              have hmni:min ((x0.1.1:Int)+x0.1.2.1) ((y.1.1:Int)+y.1.2.1)=(mn:Int):=by omega
              have hmn1:cur<mn∧mn≤x0.1.1+x0.1.2.1∧mn≤y.1.1+y.1.2.1:=by omega
              clear hmn;have hE2:Ends ts pt mn:=⟨hE.1,fun j x h1 h2=>Nat.le_trans (hE.2 j x h1 h2) (by omega)⟩
              have hov2:Zay ts (fun z=>z∈Zq (os.take kn)∨(z∈prs x0.1∧z.1<mn)) ps mn:=hov.more (fun z hz=>by
               constructor
               · rintro(h|⟨h,h2⟩)
                 · exact .inl h
                 · exact .inr ⟨h,by omega⟩
               · rintro(h|⟨h,h2⟩)
                 · exact .inl h
                 · rcases Nat.lt_or_ge z.1 cur with h3|h3
                   · exact .inr ⟨h,h3⟩
                   · exfalso
                     have:Zae (Zq ts) z.1=true:=hasT.2 ⟨y,List.mem_of_getElem? hy,by omega,by omega⟩;rw [hz] at this;cases this) (by omega)
              have HE2:=Lib.hid hE2;have HOV2:=Lib.hid hov2;clear hE hv h8 hov hE2 hov2;go_wp2_with (go_at_call 303;refine(ZcO _ _ _ _ (by assumption) _).mono ?_;rintro e w4 ⟨rfl,hb4⟩;have HV:=Lib.hid (HV.out.step hb4);have H8:=Lib.hid (show R8 w4 B8 x0 from Zs H8.out hb4);obtain⟨z0,z1,z2,z3⟩:=H8.out.cells;obtain⟨kt,_,_,_,_,_⟩:=hbx _ HV.out.2.2.1;have HY:=Lib.hid (HY.out.step hb4);obtain⟨y0,y1,y2,y3⟩:=HY.out)
              refine⟨⟨mn,pt,ps,rfl,rfl,by omega,by omega,HE2.out,HOV2.out,by omega,HV.out,H8.out,HNE.out⟩,by simp [intOf];omega⟩
            · have hfyi:¬(y.1.1:Int)≤(cur:Int):=by omega
              obtain⟨en,hen⟩:∃en,en=min (x0.1.1+x0.1.2.1) y.1.1:=⟨_,rfl⟩
              have hen1:cur<en:=by omega
              have hen2:en≤x0.1.1+x0.1.2.1:=by omega
              have hmni:min ((x0.1.1:Int)+x0.1.2.1) (y.1.1:Int)=(en:Int):=by omega
              have hnc:∀c,cur≤c→c<en→Zae (Zq ts) c=false:=fun c hc1 hc2=>by
               cases hb:Zae (Zq ts) c with
               |false=>rfl
               |true=>
                exfalso
                obtain⟨x,hx,g1,g2⟩:=hasT.1 hb;obtain⟨j,hj,rfl⟩:=List.getElem_of_mem hx;rcases Nat.lt_or_ge j pt with h1|h1
                · have:=hE.2 j _ h1 (List.getElem?_eq_getElem hj);omega
                · rcases Nat.lt_or_ge pt j with h2|h2
                  · have:=ht.fr_mono hy (List.getElem?_eq_getElem hj) h2;omega
                  · obtain rfl:j=pt:=by omega
                    rw [List.getElem?_eq_getElem hj] at hy;injection hy with hy;subst hy;omega
              have hnew:=fun q=>hov.part (q:=q) hok0 hc1 hen1 hen2 hnc;have Hnew:=Lib.hid hnew;have hpart:∀(W':World),Below w.heap.size w W'→Calls Tryz.prog 344 #[.agg #[.int .i64 (x0.1.1:Int),.int .i64 (x0.1.2.1:Int),.int .i32 x0.1.2.2.1,.slice x0.2.1 x0.2.2.1 x0.2.2.2],.int .i64 (cur:Int),.int .i64 (en:Int)] W' fun e w'=>∃q:Sl,e= .returned (.agg #[.int .i64 (cur:Int),.int .i64 ((en - cur:Nat):Int),.int .i32 (ZE x0.1 cur en).2.2.1,.slice q.1 q.2.1 q.2.2])∧ZI w' W'.heap.size (ZE x0.1 cur en,q)∧Below W'.heap.size W' w':=fun W' hB=>ZjA x0 cur en hok0 hc1 hen1 hen2 W' (((ho.2.1 x0 (List.mem_of_getElem? hx0)).2.below hB).more hB.size);have hpl:(ts++ps).length≤9437184:=by rw [List.length_append];omega
              clear hnew hnc hov hen;go_wp2_with (first|(go_at_call 303;refine(ZcO _ _ _ _ (by assumption) _).mono ?_;rintro e w4 ⟨rfl,hb4⟩;have HV:=Lib.hid (HV.out.step hb4);have H8:=Lib.hid (show R8 w4 B8 x0 from Zs H8.out hb4);obtain⟨z0,z1,z2,z3⟩:=H8.out.cells;obtain⟨kt,_,_,_,_,_⟩:=hbx _ HV.out.2.2.1;have HY:=Lib.hid (HY.out.step hb4);obtain⟨y0,y1,y2,y3⟩:=HY.out)|(go_at_call 344;refine(hpart _ (hbw _ HV.out.2.2.1)).mono ?_;rintro e w6 ⟨q6,rfl,hsg6,hb6⟩;have HV:=Lib.hid (HV.out.step hb6);have H8:=Lib.hid (show R8 w6 B8 x0 from Zs H8.out hb6);have HSG:=Lib.hid (hsg6.more hb6.size))|(at_builtin;obtain⟨v7,w7,hrun,hown7,hg7,hloc⟩:=Zj3 (P:=Tryz.prog) (w6.alloc (.cells #[.int .i64 (cur:Int),.int .i64 ((en - cur:Nat):Int),.int .i32 (ZE x0.1 cur en).2.2.1,.slice q6.1 q6.2.1 q6.2.2] 331)) (w.heap.size+3) 209 209 331 i0 _ 4 48 Tryz.underlying209 hi iz0 iz1 iz2 rfl (by decide) _ (ts++ps).length _ ((HV.out.alloc _).1) ⟨w6.heap.size,0,none⟩ 1 1 [.int .i64 (cur:Int),.int .i64 ((en - cur:Nat):Int),.int .i32 (ZE x0.1 cur en).2.2.1,.slice q6.1 q6.2.1 q6.2.2] rfl (ZfA w6 _ _ _ _ _) (by intro u hu;simp only [List.mem_cons,List.not_mem_nil,or_false] at hu;rcases hu with rfl|rfl|rfl|rfl<;>rfl) (by unfold maxLen;omega) (by omega) (by have:=HV.out.2.2.2;simp;omega);refine Lib.wpList_append_run _ rfl _ _ _ _ rfl _ _ rfl rfl _ _ hrun ?_;clear hrun;have HOWN:=Lib.hid hown7;have HG7:=Lib.hid hg7;have HLOC:=Lib.hid hloc;clear hown7 hg7 hloc))
              have HV6:=HV.out.alloc (.cells #[.int .i64 (cur:Int),.int .i64 ((en - cur:Nat):Int),.int .i32 (ZE x0.1 cur en).2.2.1,.slice q6.1 q6.2.1 q6.2.2] 331);have HB7:=Z3 HV6.2.2.1 HV6.1 HG7.out HV6.2.2.2 (Nat.le_refl _);have hsg7:∀x∈ps++[(ZE x0.1 cur en,q6)],ZI w7 w7.heap.size x:=fun x hx=>by
               rcases List.mem_append.1 hx with h1|h1
               · exact(Zb4 (HV6.2.1 x h1) HV6.1 (by decide) HG7.out (Nat.le_refl _)).more HG7.out.size
               · simp only [List.mem_singleton] at h1;subst h1;exact(Zb4 ((HSG.out.below ((Below.refl _ _).alloc (Nat.le_refl _) _)).more (by simp)) HV6.1 (by decide) HG7.out (Nat.le_refl _)).more HG7.out.size
              have hl8:=(Array.getElem?_eq_some_iff.1 H8.out).1;have h88:=(Below.heap_alloc w6 (.cells #[.int .i64 (cur:Int),.int .i64 ((en - cur:Nat):Int),.int .i32 (ZE x0.1 cur en).2.2.1,.slice q6.1 q6.2.1 q6.2.2] 331) _ hl8).trans H8.out;refine⟨⟨en,pt,ps++[(ZE x0.1 cur en,q6)],rfl,(by first|rfl|rw [hptn]),by omega,by omega,⟨HEi.out.1,fun j x h1 h2=>Nat.le_trans (HEi.out.2 j x h1 h2) (by omega)⟩,(Hnew.out q6).more (fun z _=> ?_) (Nat.le_refl _),by rw [List.length_append,List.length_singleton];omega,⟨?_,hsg7,HB7,by have:=HG7.out.size;have:=HV6.2.2.2;omega⟩,(HG7.out.block _ (by simp;omega) HNE.out).trans h88,fun e=>HLOC.out.elim (fun h=>HNE.out (e.trans h)) (fun h=>by rw [h] at e;injection e with e;simp at e;omega)⟩,by simp [intOf];omega⟩
              · constructor
                · rintro((h|⟨h,h2⟩)|⟨h,h2,h3⟩)
                  · exact .inl h
                  · exact .inr ⟨h,by omega⟩
                  · exact .inr ⟨h,h3⟩
                · rintro(h|⟨h,h2⟩)
                  · exact .inl (.inl h)
                  · rcases Nat.lt_or_ge z.1 cur with h3|h3
                    · exact .inl (.inr ⟨h,h3⟩)
                    · exact .inr ⟨h,h3,h2⟩
              · have:=HOWN.out;rw [←List.append_assoc,List.length_append,List.flatMap_append];simpa [rV,slV,ZE] using this
        · have hptn:pt=ts.length:=by have:=hE.1;omega
          have hpti:¬(pt:Int)<(ts.length:Int):=by omega
          obtain⟨en,hen⟩:∃en,en=x0.1.1+x0.1.2.1:=⟨_,rfl⟩
          have hen1:cur<en:=by omega
          have hen2:en≤x0.1.1+x0.1.2.1:=by omega
          have heni:(x0.1.1:Int)+x0.1.2.1=(en:Int):=by omega
          have hnc:∀c,cur≤c→c<en→Zae (Zq ts) c=false:=fun c hc1 hc2=>by
           cases hb:Zae (Zq ts) c with
           |false=>rfl
           |true=>
            exfalso
            obtain⟨x,hx,g1,g2⟩:=hasT.1 hb;obtain⟨j,hj,rfl⟩:=List.getElem_of_mem hx;rcases Nat.lt_or_ge j pt with h1|h1
            · have:=hE.2 j _ h1 (List.getElem?_eq_getElem hj);omega
            · omega
          have hnew:=fun q=>hov.part (q:=q) hok0 hc1 hen1 hen2 hnc;have Hnew:=Lib.hid hnew;have hpart:∀(W':World),Below w.heap.size w W'→Calls Tryz.prog 344 #[.agg #[.int .i64 (x0.1.1:Int),.int .i64 (x0.1.2.1:Int),.int .i32 x0.1.2.2.1,.slice x0.2.1 x0.2.2.1 x0.2.2.2],.int .i64 (cur:Int),.int .i64 (en:Int)] W' fun e w'=>∃q:Sl,e= .returned (.agg #[.int .i64 (cur:Int),.int .i64 ((en - cur:Nat):Int),.int .i32 (ZE x0.1 cur en).2.2.1,.slice q.1 q.2.1 q.2.2])∧ZI w' W'.heap.size (ZE x0.1 cur en,q)∧Below W'.heap.size W' w':=fun W' hB=>ZjA x0 cur en hok0 hc1 hen1 hen2 W' (((ho.2.1 x0 (List.mem_of_getElem? hx0)).2.below hB).more hB.size);have hpl:(ts++ps).length≤9437184:=by rw [List.length_append];omega
          clear hnew hnc hov hen;go_wp2_with (first|(go_at_call 303;refine(ZcO _ _ _ _ (by assumption) _).mono ?_;rintro e w4 ⟨rfl,hb4⟩;have HV:=Lib.hid (HV.out.step hb4);have H8:=Lib.hid (show R8 w4 B8 x0 from Zs H8.out hb4);obtain⟨z0,z1,z2,z3⟩:=H8.out.cells;obtain⟨kt,_,_,_,_,_⟩:=hbx _ HV.out.2.2.1)|(go_at_call 344;refine(hpart _ (hbw _ HV.out.2.2.1)).mono ?_;rintro e w6 ⟨q6,rfl,hsg6,hb6⟩;have HV:=Lib.hid (HV.out.step hb6);have H8:=Lib.hid (show R8 w6 B8 x0 from Zs H8.out hb6);have HSG:=Lib.hid (hsg6.more hb6.size))|(at_builtin;obtain⟨v7,w7,hrun,hown7,hg7,hloc⟩:=Zj3 (P:=Tryz.prog) (w6.alloc (.cells #[.int .i64 (cur:Int),.int .i64 ((en - cur:Nat):Int),.int .i32 (ZE x0.1 cur en).2.2.1,.slice q6.1 q6.2.1 q6.2.2] 331)) (w.heap.size+3) 209 209 331 i0 _ 4 48 Tryz.underlying209 hi iz0 iz1 iz2 rfl (by decide) _ (ts++ps).length _ ((HV.out.alloc _).1) ⟨w6.heap.size,0,none⟩ 1 1 [.int .i64 (cur:Int),.int .i64 ((en - cur:Nat):Int),.int .i32 (ZE x0.1 cur en).2.2.1,.slice q6.1 q6.2.1 q6.2.2] rfl (ZfA w6 _ _ _ _ _) (by intro u hu;simp only [List.mem_cons,List.not_mem_nil,or_false] at hu;rcases hu with rfl|rfl|rfl|rfl<;>rfl) (by unfold maxLen;omega) (by omega) (by have:=HV.out.2.2.2;simp;omega);refine Lib.wpList_append_run _ rfl _ _ _ _ rfl _ _ rfl rfl _ _ hrun ?_;clear hrun;have HOWN:=Lib.hid hown7;have HG7:=Lib.hid hg7;have HLOC:=Lib.hid hloc;clear hown7 hg7 hloc))
          have HV6:=HV.out.alloc (.cells #[.int .i64 (cur:Int),.int .i64 ((en - cur:Nat):Int),.int .i32 (ZE x0.1 cur en).2.2.1,.slice q6.1 q6.2.1 q6.2.2] 331);have HB7:=Z3 HV6.2.2.1 HV6.1 HG7.out HV6.2.2.2 (Nat.le_refl _);have hsg7:∀x∈ps++[(ZE x0.1 cur en,q6)],ZI w7 w7.heap.size x:=fun x hx=>by
           rcases List.mem_append.1 hx with h1|h1
           · exact(Zb4 (HV6.2.1 x h1) HV6.1 (by decide) HG7.out (Nat.le_refl _)).more HG7.out.size
           · simp only [List.mem_singleton] at h1;subst h1;exact(Zb4 ((HSG.out.below ((Below.refl _ _).alloc (Nat.le_refl _) _)).more (by simp)) HV6.1 (by decide) HG7.out (Nat.le_refl _)).more HG7.out.size
          have hl8:=(Array.getElem?_eq_some_iff.1 H8.out).1;have h88:=(Below.heap_alloc w6 (.cells #[.int .i64 (cur:Int),.int .i64 ((en - cur:Nat):Int),.int .i32 (ZE x0.1 cur en).2.2.1,.slice q6.1 q6.2.1 q6.2.2] 331) _ hl8).trans H8.out;refine⟨⟨en,pt,ps++[(ZE x0.1 cur en,q6)],rfl,(by first|rfl|rw [hptn]),by omega,by omega,⟨HEi.out.1,fun j x h1 h2=>Nat.le_trans (HEi.out.2 j x h1 h2) (by omega)⟩,(Hnew.out q6).more (fun z _=> ?_) (Nat.le_refl _),by rw [List.length_append,List.length_singleton];omega,⟨?_,hsg7,HB7,by have:=HG7.out.size;have:=HV6.2.2.2;omega⟩,(HG7.out.block _ (by simp;omega) HNE.out).trans h88,fun e=>HLOC.out.elim (fun h=>HNE.out (e.trans h)) (fun h=>by rw [h] at e;injection e with e;simp at e;omega)⟩,by simp [intOf];omega⟩
          · constructor
            · rintro((h|⟨h,h2⟩)|⟨h,h2,h3⟩)
              · exact .inl h
              · exact .inr ⟨h,by omega⟩
              · exact .inr ⟨h,h3⟩
            · rintro(h|⟨h,h2⟩)
              · exact .inl (.inl h)
              · rcases Nat.lt_or_ge z.1 cur with h3|h3
                · exact .inl (.inr ⟨h,h3⟩)
                · exact .inr ⟨h,h3,h2⟩
          · have:=HOWN.out;rw [←List.append_assoc,List.length_append,List.flatMap_append];simpa [rV,slV,ZE] using this
     · have hcure:cur=x0.1.1+x0.1.2.1:=by omega
       have hcuri:¬(cur:Int)<(x0.1.1:Int)+x0.1.2.1:=by omega
       go_wp2_with (go_at_call 303;refine(ZcO _ _ _ _ (by assumption) _).mono ?_;rintro e w4 ⟨rfl,hb4⟩;have HV:=Lib.hid (HV.out.step hb4);have H8:=Lib.hid (show R8 w4 B8 x0 from Zs H8.out hb4);obtain⟨z0,z1,z2,z3⟩:=H8.out.cells;obtain⟨kt,_,_,_,_,_⟩:=hbx _ HV.out.2.2.1)
       refine⟨⟨kn+1,pt,cur,ps,by omega,by simp,rfl,HE.out,fun j y h1 h2=>by have:=ho.fr_mono hx0 h2 (by omega);omega,HOV.out.more (fun z _=> ?_) (Nat.le_refl _),hpl,by omega,HV.out⟩,by simp [intOf];omega⟩;rw [Htk.out];constructor
       · rintro(h|⟨h,h2⟩)
         · exact .inl h
         · exact .inr h
       · rintro(h|h)
         · exact .inl h
         · exact .inr ⟨h,by have:=(ZbB.1 h).2.1;omega⟩
  · obtain rfl:kn=os.length:=by omega
    rw [List.take_length] at hov;obtain⟨A5,c5,hv5,hc5,_⟩:=Reads.of_own hv.1;obtain⟨nn,hnn⟩:∃n,n=(ts++ps).length:=⟨_,rfl⟩
    rw [←hnn] at hv5;subst hv5;have hbf:=Zi6 (w.heap.size+3) (.slice A5 nn c5) (ts++ps) wr hv.1 hvb (by rw [List.length_append];omega);have Hlt5:=Lib.hid (show∀ad,A5=some ad→w.heap.size+3≤ad.block from fun ad h=>(hv.1.lt ad.block (by rw [h];rfl)).1);have HV:=Lib.hid hv;have HOV:=Lib.hid hov;have Hnn:=Lib.hid hnn;clear hv hov hE hlow hnn;go_wp2_with (go_at_call 342;refine hbf.mono ?_;rintro e w9 ⟨rfl,A6,c6,rs',hv6,hc6,hperm,hsort,hrd,hbb,hgr9⟩;have HB9:=HV.out.2.2.1.trans hbb;obtain⟨_,_,c2,f2,n2,g2⟩:=hbx _ HB9;injection hv6 with hA6 hx6 hcc6;clear hx6;subst hA6;subst hcc6;have Hperm:=Lib.hid hperm;have Hsort:=Lib.hid hsort;have Hrd:=Lib.hid hrd;clear hperm hsort hrd)
    obtain⟨hro,hprs⟩:=ov_end ht.2.2 ho.2.2 HOV.out Hperm.out Hsort.out;have hlen:rs'.length=nn:=Hperm.out.length_eq.trans Hnn.out.symm;have hnl:nn=ts.length+ps.length:=Hnn.out.trans List.length_append;have hsg9:∀x∈rs',ZI w9 w9.heap.size x:=fun x hx=>by
     rcases List.mem_append.1 (Hperm.out.mem_iff.1 hx) with h1|h1
     · exact((ht.2.1 x h1).2.below (hbw _ HB9)).more (hbw _ HB9).size
     · exact(Zb4 (HV.out.2.1 x h1) HV.out.1 (by decide) hgr9 (Nat.le_refl _)).more hgr9.size
    have hf:P (.returned (.agg #[.slice A5 nn c5])) (w9.setCell ⟨w.heap.size+2,0,none⟩ (.slice A5 nn c5)):=by
     rw [←hP];refine⟨A5,c5,rs',by rw [hlen],by rw [hlen,Hnn.out];exact hc5,by omega,⟨?_,fun x hx=>⟨hro.2 _ (List.mem_map_of_mem hx),?_⟩,hro⟩,hprs,(hbw _ HB9).setCell (by simp) _⟩
     · rw [show(w9.setCell ⟨w.heap.size+2,0,none⟩ (.slice A5 nn c5)).heap.size=w9.heap.size by simp];exact Ztd Hrd.out Hlt5.out (by omega) _
     · rw [show(w9.setCell ⟨w.heap.size+2,0,none⟩ (.slice A5 nn c5)).heap.size=w9.heap.size by simp];exact Zm6 (hsg9 x hx) _ n2 (by decide)
    refine bodyPost_ret (v:= .agg #[.slice A5 nn c5]) (by simp [results,Tryz.results301,go_sem,c2]) rfl ?_;exact hf
end Go.Proofs.YtlfinljfghhpdaaGreatDoor
