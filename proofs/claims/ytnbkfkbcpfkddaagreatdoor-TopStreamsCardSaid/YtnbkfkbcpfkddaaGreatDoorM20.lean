/- Lemmas for a statement on the tops; conditions: as each says. -/
import Derived.Deep.Heap
import Derived.Sort.OwnSortedInts
import Derived.Test.YtnbkfkbcpfkddaaGreatDoorM3
import Derived.Test.YtnbkfkbcpfkddaaGreatDoorM4
import Derived.Test.YtnbkfkbcpfkddaaGreatDoorM19
set_option linter.unusedVariables false
set_option linter.unusedSimpArgs false
set_option maxRecDepth 100000
set_option maxHeartbeats 4000000
namespace Go.Proofs.YtnbkfkbcpfkddaaGreatDoor
open Go Go.RowKit
theorem bx {w wr:World} {T:TypeId} {cs:Array Value} (hb:Below (w.alloc (.cells cs T)).heap.size (w.alloc (.cells cs T)) wr):
 (∀j,wr.cell? ⟨w.heap.size,j,none⟩=cs[j]?)∧(∀j,wr.frozen? ⟨w.heap.size,j,none⟩=false)∧w.heap.size<wr.heap.size:=by
 have h1:=hb.size;simp only [World.size_alloc] at h1;have hl:w.heap.size<(w.alloc (.cells cs T)).heap.size:=by simp
 have e:=heap_alloc_new w (.cells cs T);refine⟨fun j=> ?_,fun j=> ?_,by omega⟩
 · rw [hb.cell (p:=⟨w.heap.size,j,none⟩) hl,cell_of_row _ w.heap.size j _ T (0,0) e]
 · rw [hb.frozen (p:=⟨w.heap.size,j,none⟩) hl,frozen_of_row _ w.heap.size j _ T e]
theorem bx4 {w wr:World} {T:TypeId} {a b c d:Value} (hb:Below (w.alloc (.cells #[a,b,c,d] T)).heap.size (w.alloc (.cells #[a,b,c,d] T)) wr):
 (wr.cell? ⟨w.heap.size,0,none⟩=some a∧wr.cell? ⟨w.heap.size,1,none⟩=some b∧wr.cell? ⟨w.heap.size,2,none⟩=some c∧wr.cell? ⟨w.heap.size,3,none⟩=some d)∧(wr.frozen? ⟨w.heap.size,0,none⟩=false∧wr.frozen? ⟨w.heap.size,1,none⟩=false∧wr.frozen? ⟨w.heap.size,2,none⟩=false∧wr.frozen? ⟨w.heap.size,3,none⟩=false):=by
 obtain⟨h1,h2,_⟩:=bx hb;exact⟨⟨h1 0,h1 1,h1 2,h1 3⟩,h2 0,h2 1,h2 2,h2 3⟩
theorem ZfR (a:Addr)(i j:Nat):(a.add i).add j=a.add (i+j):=by
 unfold Addr.add;by_cases h1:i=0
 · subst h1;simp
 · by_cases h2:j=0
   · subst h2;simp
   · rw [if_neg h1,if_neg h2,if_neg (by omega)];simp [Nat.add_assoc]
def Zz (r:Rw)(a b:Nat):Rw:=(a,b - a,match r.2.2.2 with
 |none=>(r.2.2.1+((a - r.1:Nat):Int),none)
 |some l=>(0,some ((l.drop (a - r.1)).take (b - a))))
theorem Ze2 {r:Rw} {a b:Nat} (h:Zah r)(h1:r.1≤a)(h2:a<b)(h3:b≤r.1+r.2.1):Zah (Zz r a b):=by
 obtain⟨f,n,t,q⟩:=r;obtain⟨g1,g2,g3⟩:=h;simp only at g1 g2 g3 h1 h3;cases q with
 |none=>
  simp only at g3;refine⟨by simp [Zz];omega,by simp [Zz];omega,?_⟩;simp only [Zz];omega
 |some l=>
  simp only at g3;refine⟨by simp [Zz];omega,by simp [Zz];omega,?_⟩;simp only [Zz];refine⟨trivial,by rw [List.length_take,List.length_drop];omega,fun p hp=>g3.2.2 p (List.mem_of_mem_drop (List.mem_of_mem_take hp))⟩
theorem Zky {r:Rw} {a b c:Nat} (h1:r.1≤a)(h2:a≤c)(h3:c<b):ZR (Zz r a b) (c - a)=ZR r (c - r.1):=by
 obtain⟨f,n,t,q⟩:=r;simp only at h1;cases q with
 |none=>simp only [Zz,ZR];omega
 |some l=>
  simp only [Zz,ZR,List.getD];rw [List.getElem?_take_of_lt (by omega),List.getElem?_drop,show a - f+(c - a)=c - f by omega]
theorem Zkx {r:Rw} {a b:Nat} (h1:r.1≤a)(h3:b≤r.1+r.2.1){x:Pr}:x∈prs (Zz r a b)↔a≤x.1∧x.1<b∧x∈prs r:=by
 have e1:(Zz r a b).1=a:=rfl;have e2:(Zz r a b).2.1=b - a:=rfl;rw [ZaG,ZaG,e1,e2];constructor
 · rintro⟨g1,g2,g3⟩;rw [Zky h1 g1 (by omega)] at g3;exact⟨g1,by omega,by omega,by omega,g3⟩
 · rintro⟨g1,g2,g3,g4,g5⟩;exact⟨g1,by omega,by rw [Zky h1 g1 g2];exact g5⟩
def ZfK (x:Rw×Sl)(a b:Nat)(w0:World)(e:Ending)(w':World):Prop:=∃v,e= .returned (.agg (rV (Zz x.1 a b,v)).toArray)∧ZA w' w0.heap.size (Zz x.1 a b,v)∧Below w0.heap.size w0 w'
theorem Zh1 (x:Rw×Sl)(a b:Nat)(hx:Zah x.1)(h1:x.1.1≤a)(h2:a<b)(h3:b≤x.1.1+x.1.2.1)(w:World)(hs:ZA w w.heap.size x):
 Calls Tryz.prog 312 #[.agg (rV x).toArray,.int .i64 (a:Int),.int .i64 (b:Int)] w (ZfK x a b w):=by
 have hsg:=fun(W:World) (hb:Below w.heap.size w W)=>ZfL x a hx ⟨h1,by omega⟩ W ((hs.below hb).more hb.size);obtain⟨⟨f,n,t,q⟩,v⟩:=x;obtain⟨g1,g2,g3⟩:=hx;simp only at g1 g2 g3 h1 h3 hsg;have e1:IntKind.i64.wrap ((b:Int) - a)=(b:Int) - a:=IntWalk.i64_in _ (by omega);have c1:(b:Int) - a=((b - a:Nat):Int):=by omega
 have hnn:=fun(w:World) (a:Option Addr) (n c:Nat)=>run_neq_slice_nil_any (P:=Tryz.prog) w 320 _ a n c 0 0 Tryz.underlying320;cases q with
 |none=>
  obtain rfl:v=(none,0,0):=hs;unfold rV slV at hsg⊢;unfold ZfK rV slV;simp only [Zz] at hsg⊢;have hr:ZR (f,n,t,none) (a - f)=t+((a - f:Nat):Int):=rfl;rw [hr] at hsg;go_enter Tryz.func312,Tryz.ntmps312
  go_wp2_with (go_at_call 264;refine(hsg _ (((((Below.refl _ w).alloc (Nat.le_refl _) _).alloc (by simp) _).alloc (by simp;omega) _))).mono ?_;rintro e w1 ⟨rfl,hb1⟩;have hB1:=Zh hb1;obtain⟨⟨b0,b1,b2,b3⟩,f0,f1,f2,f3⟩:=bx4 hb1;obtain⟨⟨c0,c1,c2,c3⟩,k0,k1,k2,k3⟩:=bx4 (Zh hb1);simp only [World.size_alloc] at b0 b1 b2 b3 f0 f1 f2 f3 c0 c1 c2 c3 k0 k1 k2 k3)
  refine bodyPost_ret (v:= .agg #[.int .i64 (a:Int),.int .i64 ((b - a:Nat):Int),.int .i32 (t+((a - f:Nat):Int)),.slice none 0 0]) (by simp [results,Tryz.results312,go_sem,c0,c1,c2,c3]) rfl ?_;refine⟨(none,0,0),rfl,rfl,?_⟩;exact(((((Zh (Zh (Zh hb1))).setCell (by simp;omega) _).setCell (by simp) _).setCell (by simp) _).setCell (by simp) _).setCell (by simp) _
 |some l=>
  obtain⟨ad,cp,cs,fr,hv,hcp,hbk,hsp,hh,hcs⟩:=hs;simp only at hv hcp hcs g3;obtain⟨rfl,g4,_⟩:=g3;subst hv;have e2:IntKind.i64.wrap ((a:Int) - f)=(a:Int) - f:=IntWalk.i64_in _ (by omega);have c2:(a:Int) - f=((a - f:Nat):Int):=by omega
  have e3:IntKind.i64.wrap ((b:Int) - f)=(b:Int) - f:=IntWalk.i64_in _ (by omega);have c3:(b:Int) - f=((b - f:Nat):Int):=by omega
  have hfin:ZA w w.heap.size ((a,b - a,0,some ((l.drop (a - f)).take (b - a))),(some (ad.add (a - f)),b - f - (a - f),cp - (a - f))):=by
   have hbk2:(ad.add (a - f)).block=ad.block:=by rw [addr_eq hsp]
   have hof2:(ad.add (a - f)).off=ad.off+(a - f):=by rw [addr_eq hsp]
   refine⟨ad.add (a - f),cp - (a - f),cs,fr,?_,?_,by rw [hbk2];exact hbk,by rw [addr_eq hsp],by rw [hbk2];exact hh,fun j hj=> ?_⟩
   · simp only [List.length_take,List.length_drop];rw [show min (b - a) (l.length - (a - f))=b - f - (a - f) by omega]
   · simp only [List.length_take,List.length_drop];omega
   · simp only [List.length_take,List.length_drop] at hj;have:=hcs (a - f+j) (by omega);rw [hof2,Nat.add_assoc,this];simp only [List.getD];rw [List.getElem?_take_of_lt (by omega),List.getElem?_drop]
  have Hfin:=Lib.hid hfin;have g5:a - f≤b - f:=by omega
  have g6:b - f≤cp:=by omega
  have g7:a - f≤cp:=by omega
  clear hcs hh hfin hsg;unfold ZfK rV slV;simp only [Zz];go_enter Tryz.func312,Tryz.ntmps312
  go_wp2_with fail
  refine bodyPost_ret (v:= .agg #[.int .i64 (a:Int),.int .i64 ((b - a:Nat):Int),.int .i32 0,.slice (some (ad.add (a - f))) (b - f - (a - f)) (cp - (a - f))]) (by simp [results,Tryz.results312,go_sem]) rfl ?_;have hB:∀o1 o2 o3,Below w.heap.size w (((w.alloc o1).alloc o2).alloc o3):=fun o1 o2 o3=>(((Below.refl _ w).alloc (Nat.le_refl _) _).alloc (by simp) _).alloc (by simp;omega) _;exact⟨(some (ad.add (a - f)),b - f - (a - f),cp - (a - f)),rfl,Hfin.out.below (hB _ _ _),hB _ _ _⟩
def pV (p:Pce):List Value:=[.int .i64 p.1,.int .i32 p.2.1,.int .i64 p.2.2.1,.string p.2.2.2.1]
theorem Zkt (p:Pce):(pV p).length=4:=rfl
def ZaH:Value:= .agg #[.int .i64 0,.int .i64 0,.int .i32 0,.slice none 0 0]
def Zeo (p:Pce)(w0:World)(e:Ending)(w':World):Prop:=(rowOf p=none∧e= .returned (.tuple #[ZaH,.bool false])∨∃r v,rowOf p=some r∧e= .returned (.tuple #[.agg (rV (r,v)).toArray,.bool true])∧ZA w' w'.heap.size (r,v))∧Below w0.heap.size w0 w'
theorem ZeQ (f n:Int):ZaL f n=true↔0≤f∧1≤n∧f+n≤1048576:=by unfold ZaL;exact decide_eq_true_iff
theorem Zba {w:World} {k j:Nat} {p:Addr} (h:p.block≠k)(v:Value):(w.setCell ⟨k,j,none⟩ v).cell? p=w.cell? p:=
 World.cell?_setCell_other _ _ _ _ (fun e=>h (by rw [←e]))
theorem heap_set {w:World} {k j g:Nat} (h:g≠k)(v:Value):(w.setCell ⟨k,j,none⟩ v).heap[g]? =w.heap[g]?:=Go.Deep.blk_setCell_other w _ v g h
theorem sg_box {w:World} {k:Nat} {ps:List Int} {A:Option Addr} {c f:Nat} (hnum:Zaj w w.heap.size .i32 A ps)(hcap:ps.length≤c)(hl:1≤ps.length)(hfr:∀ad,A=some ad→ad.block≠k∧ad.spot=none∧∃cs fr,w.heap[ad.block]? =some (.cells cs 21 fr)∧∀j,j<ps.length→cs[ad.off+j]? =some (.int .i32 (ps.getD j 0)))(v0 v1 v2 v3:Value)(o:Obj):
 ZA (((((w.setCell ⟨k,0,none⟩ v0).setCell ⟨k,1,none⟩ v1).setCell ⟨k,2,none⟩ v2).setCell ⟨k,3,none⟩ v3).alloc o) (((((w.setCell ⟨k,0,none⟩ v0).setCell ⟨k,1,none⟩ v1).setCell ⟨k,2,none⟩ v2).setCell ⟨k,3,none⟩ v3).alloc o).heap.size ((f,ps.length,0,some ps),(A,ps.length,c)):=by
 obtain⟨ad,rfl,hbk,_⟩:=hnum.at_ (i:=0) (by omega);obtain⟨hfa,hsp,cs,fr,hh,hcs⟩:=hfr ad rfl;refine⟨ad,c,cs,fr,rfl,hcap,by simp;omega,hsp,?_,hcs⟩;rw [Below.heap_alloc _ _ _ (by simp;omega),heap_set hfa,heap_set hfa,heap_set hfa,heap_set hfa];exact hh
theorem Zmf (p:Pce)(hp:Zaq p)(hs:p.2.2.2.1.size≤1000000)(w:World)(hT:Zj w):
 Calls Tryz.prog 309 #[.agg (pV p).toArray] w (Zeo p w):=by
 have HN:Hid (rowOf p=none→∀w',Below w.heap.size w w'→Zeo p w (.returned (.tuple #[ZaH,.bool false])) w'):=Lib.hid fun h w' hb=>⟨.inl ⟨h,rfl⟩,hb⟩
 have HY:Hid (∀r v w',rowOf p=some r→ZA w' w'.heap.size (r,v)→Below w.heap.size w w'→Zeo p w (.returned (.tuple #[.agg (rV (r,v)).toArray,.bool true])) w'):=Lib.hid fun r v w' h hg hb=>⟨.inr ⟨r,v,h,rfl,hg⟩,hb⟩
 generalize Zeo p w=P at*;unfold ZaH at HN;obtain⟨f,t,n,s,q⟩:=p;obtain⟨hg,hf,ht,hn⟩:=hp;simp only at hg hf ht hn hs;have hB2:∀o1 o2,Below w.heap.size w ((w.alloc o1).alloc o2):=fun o1 o2=>((Below.refl _ w).alloc (Nat.le_refl _) _).alloc (by simp) _;have hrow:rowOf (f,t,n,s,q)=if s.size≠0 then
  match q with
  |some ps=>if 0≤f∧f+ps.length≤1048576 then some (f.toNat,ps.length,0,some ps) else none
  |none=>none
  else if 0≤f∧1≤n∧f+n≤1048576∧Zv t=true∧Zv (t+n - 1)=true∧(t<55296↔t+n - 1<55296) then some (f.toNat,n.toNat,t,none)
  else none:=rfl
 unfold pV;by_cases hz:s.size=0
 · rw [if_neg (by simpa using hz)] at hrow;have hem:s.toList.isEmpty=true:=by
    rw [ByteArray.toList_eq,show s.data.toList=[] from List.eq_nil_of_length_eq_zero (by simpa using hz)];rfl
   have hin:=fun w=>ZfA f n hf w;have hsc:=fun w=>ZfM t w;clear hg;cases hi:ZaL f n with
   |false=>
    have hno:¬(0≤f∧1≤n∧f+n≤1048576):=fun h=>by rw [(ZeQ f n).2 h] at hi;cases hi
    rw [if_neg (fun h=>hno ⟨h.1,h.2.1,h.2.2.1⟩)] at hrow;have Hf:=Lib.hid (HN.out hrow);rw [hi] at hin;clear HN HY hrow hno;go_enter Tryz.func309,Tryz.ntmps309
    go_wp2_with (go_at_call 343;refine(hin _).mono ?_;rintro e w1 ⟨rfl,rfl⟩)
    refine bodyPost_ret (v:= .tuple #[ZaH,.bool false]) (by simp [ZaH,results,Tryz.results309,go_sem]) rfl ?_;exact Hf.out _ (hB2 _ _)
   |true=>
    have hyes:=(ZeQ f n).1 hi;rw [hi] at hin;cases hst:Zv t with
    |false=>
     rw [if_neg (fun h=>by rw [hst] at h;cases h.2.2.2.1)] at hrow;have Hf:=Lib.hid (HN.out hrow);rw [hst] at hsc;clear HN HY hrow;go_enter Tryz.func309,Tryz.ntmps309
     go_wp2_with (first|(go_at_call 343;refine(hin _).mono ?_;rintro e w1 ⟨rfl,rfl⟩)|(go_at_call 323;refine(hsc _).mono ?_;rintro e w1 ⟨rfl,rfl⟩))
     refine bodyPost_ret (v:= .tuple #[ZaH,.bool false]) (by simp [ZaH,results,Tryz.results309,go_sem]) rfl ?_;exact Hf.out _ (hB2 _ _)
    |true=>
     rw [hst] at hsc;have h1:=Zd1 hst;have e1:IntKind.i64.wrap (n - 1)=n - 1:=IntWalk.i64_in _ (by omega);have e2:IntKind.i32.wrap (n - 1)=n - 1:=IntWalk.i32_in _ (by omega);have e3:IntKind.i32.wrap (t+(n - 1))=t+(n - 1):=IntWalk.i32_in _ (by omega);have hsl:=fun w=>ZfM (t+(n - 1)) w;have e4:t+n - 1=t+(n - 1):=by omega
     rw [e4] at hrow;cases hsl2:Zv (t+(n - 1)) with
     |false=>
      rw [if_neg (fun h=>by rw [hsl2] at h;cases h.2.2.2.2.1)] at hrow;have Hf:=Lib.hid (HN.out hrow);rw [hsl2] at hsl;clear HN HY hrow e4;go_enter Tryz.func309,Tryz.ntmps309
      go_wp2_with (first|(go_at_call 343;refine(hin _).mono ?_;rintro e w1 ⟨rfl,rfl⟩)|(go_at_call 323;first|(refine(hsc _).mono ?_;rintro e w1 ⟨rfl,rfl⟩;clear hsc)|(refine(hsl _).mono ?_;rintro e w1 ⟨rfl,rfl⟩)))
      refine bodyPost_ret (v:= .tuple #[ZaH,.bool false]) (by simp [ZaH,results,Tryz.results309,go_sem]) rfl ?_;exact Hf.out _ (hB2 _ _)
     |true=>
      rw [hsl2] at hsl;by_cases hgap:t<55296↔t+(n - 1)<55296
      · have hgb:(!decide (t<55296)==decide (t+(n - 1)<55296))=false:=by simp [hgap]
        rw [if_pos ⟨hyes.1,hyes.2.1,hyes.2.2,hst,hsl2,hgap⟩] at hrow;have hf2:((f.toNat:Nat):Int)=f:=by omega
        have hn2:((n.toNat:Nat):Int)=n:=by omega
        have Hf:=Lib.hid (HY.out _ (none,0,0) · hrow rfl);unfold rV slV at Hf;simp only [hf2,hn2] at Hf;clear HN HY hrow e4 hf2 hn2 hyes hgap;go_enter Tryz.func309,Tryz.ntmps309
        go_wp2_with (first|(go_at_call 343;refine(hin _).mono ?_;rintro e w1 ⟨rfl,rfl⟩)|(go_at_call 323;first|(refine(hsc _).mono ?_;rintro e w1 ⟨rfl,rfl⟩;clear hsc)|(refine(hsl _).mono ?_;rintro e w1 ⟨rfl,rfl⟩)))
        refine bodyPost_ret (v:= .tuple #[.agg #[.int .i64 f,.int .i64 n,.int .i32 t,.slice none 0 0],.bool true]) (by simp [results,Tryz.results309,go_sem]) rfl ?_;exact Hf.out _ (hB2 _ _)
      · have hgb:(!decide (t<55296)==decide (t+(n - 1)<55296))=true:=by
         have a:t<55296:=by omega
         have b:¬t+(n - 1)<55296:=by omega
         simp [a,b]
        rw [if_neg (fun h=>hgap h.2.2.2.2.2)] at hrow;have Hf:=Lib.hid (HN.out hrow);clear HN HY hrow e4 hgap;go_enter Tryz.func309,Tryz.ntmps309
        go_wp2_with (first|(go_at_call 343;refine(hin _).mono ?_;rintro e w1 ⟨rfl,rfl⟩)|(go_at_call 323;first|(refine(hsc _).mono ?_;rintro e w1 ⟨rfl,rfl⟩;clear hsc)|(refine(hsl _).mono ?_;rintro e w1 ⟨rfl,rfl⟩)))
        refine bodyPost_ret (v:= .tuple #[ZaH,.bool false]) (by simp [ZaH,results,Tryz.results309,go_sem]) rfl ?_;exact Hf.out _ (hB2 _ _)
 · rw [if_pos (by simpa using hz)] at hrow;have hem:s.toList.isEmpty=false:=by
    have:=(show s.data.toList.length=s.size by simp)
    rw [ByteArray.toList_eq];generalize s.data.toList=l at*;cases l with
    |nil=>simp at this;omega
    |cons _ _=>rfl
   cases q with
   |none=>
    obtain⟨k,hbad⟩:=hg;have hin:∀w,Calls Tryz.prog 343 #[.int .i64 f,.int .i64 0] w fun e w'=>e= .returned (.bool false)∧w=w':=fun w=>by
     have:=ZfA f 0 hf w;rw [show ZaL f 0=false from decide_eq_false (by omega)] at this;exact this
    have hc:=fun w hT=>ZlP s k hbad (by omega) w hT;have Hf:=Lib.hid (HN.out hrow);clear HN HY hrow;go_enter Tryz.func309,Tryz.ntmps309
    go_wp2_with (first|(go_at_call 343;refine(hin _).mono ?_;rintro e w1 ⟨rfl,rfl⟩)|(go_at_call 342;refine(hc _ (ZG (ZG hT _) _)).mono ?_;rintro e w1 ⟨rfl,hb1⟩;obtain⟨⟨b0,b1,b2,b3⟩,f0,f1,f2,f3⟩:=bx4 hb1;obtain⟨⟨c0,c1,c2,c3⟩,k0,k1,k2,k3⟩:=bx4 (Zh hb1);simp only [World.size_alloc] at b0 b1 b2 b3 f0 f1 f2 f3))
    refine bodyPost_ret (v:= .tuple #[ZaH,.bool false]) (by simp [ZaH,results,Tryz.results309,go_sem,b0,b1,b2,b3]) rfl ?_;exact Hf.out _ (((((Zh (Zh hb1)).setCell (by simp) _).setCell (by simp) _).setCell (by simp) _).setCell (by simp) _)
   |some ps=>
    have hg:Good s ps:=hg;have hl1:=Zjn hg hz;have hl2:=hg.len;have hin:=fun w=>ZfA f ps.length hf w;have hc:=fun w hT=>ZhI s ps hg (by omega) w hT;simp only at hrow;cases hi:ZaL f ps.length with
    |false=>
     rw [if_neg (fun h=>by rw [(ZeQ f ps.length).2 ⟨h.1,by omega,h.2⟩] at hi;cases hi)] at hrow;rw [hi] at hin;have Hf:=Lib.hid (HN.out hrow);clear HN HY hrow;go_enter Tryz.func309,Tryz.ntmps309
     go_wp2_with (first|(go_at_call 343;refine(hin _).mono ?_;rintro e w1 ⟨rfl,rfl⟩)|(go_at_call 342;refine(hc _ (ZG (ZG hT _) _)).mono ?_;rintro e w1 ⟨rfl,hb1⟩;obtain⟨⟨b0,b1,b2,b3⟩,f0,f1,f2,f3⟩:=bx4 hb1;obtain⟨⟨c0,c1,c2,c3⟩,k0,k1,k2,k3⟩:=bx4 (Zh hb1);simp only [World.size_alloc] at b0 b1 b2 b3 f0 f1 f2 f3))
     refine bodyPost_ret (v:= .tuple #[ZaH,.bool false]) (by simp [ZaH,results,Tryz.results309,go_sem,b0,b1,b2,b3]) rfl ?_;exact Hf.out _ (((((Zh (Zh hb1)).setCell (by simp) _).setCell (by simp) _).setCell (by simp) _).setCell (by simp) _)
    |true=>
     have hyes:=(ZeQ f ps.length).1 hi;rw [if_pos ⟨hyes.1,hyes.2.2⟩] at hrow;rw [hi] at hin;have hf2:((f.toNat:Nat):Int)=f:=by omega
     have hpt:=fun w hT=>Zms s ps hg (by omega) w hT;have Hf:=Lib.hid (fun v w'=>HY.out _ v w' hrow);unfold rV slV at Hf;simp only [hf2] at Hf;clear HN HY hrow hf2 hyes;go_enter Tryz.func309,Tryz.ntmps309
     go_wp2_with (first|(go_at_call 343;refine(hin _).mono ?_;rintro e w1 ⟨rfl,rfl⟩)|(go_at_call 342;refine(hc _ (ZG (ZG hT _) _)).mono ?_;rintro e w1 ⟨rfl,hb1⟩;have hz1:=hb1.size;simp only [World.size_alloc] at hz1;obtain⟨⟨b0,b1,b2,b3⟩,f0,f1,f2,f3⟩:=bx4 hb1;obtain⟨⟨c0,c1,c2,c3⟩,k0,k1,k2,k3⟩:=bx4 (Zh hb1);simp only [World.size_alloc] at b0 b1 b2 b3 f0 f1 f2 f3)|(go_at_call 281;refine(hpt _ (ZU hT (Zh (Zh hb1)) (Nat.le_refl _))).mono ?_;rintro e w2 ⟨A,c,rfl,hcap,hnum,hfr,hb2⟩;have hz2:=hb2.size;have g0:w.heap.size<w2.heap.size:=(by omega);have g1:w.heap.size+1<w2.heap.size:=(by omega);have d0:=(hb2.cell (p:=⟨w.heap.size,0,none⟩) (by show w.heap.size<_;omega)).trans c0;have q0:=(hb2.cell (p:=⟨w.heap.size+1,0,none⟩) (by show w.heap.size+1<_;omega)).trans b0;have q1:=(hb2.cell (p:=⟨w.heap.size+1,1,none⟩) (by show w.heap.size+1<_;omega)).trans b1;have q2:=(hb2.cell (p:=⟨w.heap.size+1,2,none⟩) (by show w.heap.size+1<_;omega)).trans b2;have q3:=(hb2.cell (p:=⟨w.heap.size+1,3,none⟩) (by show w.heap.size+1<_;omega)).trans b3;have r0:=(hb2.frozen (p:=⟨w.heap.size+1,0,none⟩) (by show w.heap.size+1<_;omega)).trans f0;have r1:=(hb2.frozen (p:=⟨w.heap.size+1,1,none⟩) (by show w.heap.size+1<_;omega)).trans f1;have r2:=(hb2.frozen (p:=⟨w.heap.size+1,2,none⟩) (by show w.heap.size+1<_;omega)).trans f2;have r3:=(hb2.frozen (p:=⟨w.heap.size+1,3,none⟩) (by show w.heap.size+1<_;omega)).trans f3))
     refine bodyPost_ret (v:= .tuple #[.agg #[.int .i64 f,.int .i64 ps.length,.int .i32 0,.slice A ps.length c],.bool true]) (by simp [results,Tryz.results309,go_sem,World.cell?_alloc_lt,g1,q0,q1,q2,q3]) rfl ?_;refine Hf.out (A,ps.length,c) _ ?_ ?_
     · exact sg_box hnum hcap hl1 (fun ad e=>⟨by have:=(hfr ad e).1;omega,(hfr ad e).2⟩) _ _ _ _ _
     · exact((((((Zh (Zh hb1)).trans (hb2.mono (by omega))).setCell (by simp) _).setCell (by simp) _).setCell (by simp) _).setCell (by simp) _).alloc (by simp;omega) _
def lst (r:Rw)(p:Int):Option Nat:=((prs r).find? fun x=>x.2==p).map (·.1)
theorem lst_eq (r:Rw)(p:Int):lst r p=((List.range r.2.1).find? fun i=>ZR r i==p).map (r.1+ ·):=by
 unfold lst prs;rw [List.find?_map,Option.map_map];rfl
theorem ZjN (r:Rw)(p:Int):(∃k,k<r.2.1∧ZR r k=p∧(∀j,j<k→ZR r j≠p)∧lst r p=some (r.1+k))∨((∀j,j<r.2.1→ZR r j≠p)∧lst r p=none):=by
 rw [lst_eq];cases h:(List.range r.2.1).find? fun i=>ZR r i==p with
 |none=>
  rw [List.find?_range_eq_none] at h;exact .inr ⟨fun j hj=>by have:=h j hj;simpa using this,rfl⟩
 |some k=>
  rw [List.find?_range_eq_some] at h;obtain⟨h1,h2,h3⟩:=h;exact .inl ⟨k,List.mem_range.1 h2,by simpa using h1,fun j hj=>by have:=h3 j hj;simpa using this,rfl⟩
def Zee (r:Rw)(p:Int)(w0:World)(e:Ending)(w':World):Prop:=∃z,e= .returned (.tuple #[.int .i64 z,.bool (lst r p).isSome])∧(∀c,lst r p=some c→z=c)∧Below w0.heap.size w0 w'
theorem ZlO (x:Rw×Sl)(p:Int)(hp: -2147483648≤p∧p<2147483648)(hx:Zah x.1)(w:World)(hs:ZA w w.heap.size x):
 Calls Tryz.prog 375 #[.agg (rV x).toArray,.int .i32 p] w (Zee x.1 p w):=by
 have hnn:=fun(w:World) (a:Option Addr) (n c:Nat)=>run_neq_slice_nil_any (P:=Tryz.prog) w 320 _ a n c 0 0 Tryz.underlying320;obtain⟨⟨f,n,t,q⟩,v⟩:=x;obtain⟨g1,g2,g3⟩:=hx;simp only at g1 g2 g3;cases q with
 |none=>
  obtain rfl:v=(none,0,0):=hs;simp only at g3;have hlc:=ZjN (f,n,t,none) p;simp only [ZR] at hlc;unfold Zee rV slV;simp only;have e1:∀z:Int, -2147483648≤z∧z≤2147483647→IntKind.i64.wrap z=z:=fun z h=>IntWalk.i64_in _ (by omega);by_cases hpt:t≤p
  · have e2:IntKind.i32.wrap (p - t)=p - t:=IntWalk.i32_in _ (by omega);have e3:IntKind.i64.wrap (p - t)=p - t:=e1 _ (by omega);have e4:IntKind.i64.wrap ((f:Int)+(p - t))=(f:Int)+(p - t):=IntWalk.i64_in _ (by omega);have hr:(lst (f,n,t,none) p).isSome=decide (p - t<n)∧∀c,lst (f,n,t,none) p=some c→(f:Int)+(p - t)=c:=by
     rcases hlc with⟨k,h1,h2,_,h4⟩|⟨h1,h2⟩
     · rw [h4];exact⟨by rw [decide_eq_true (by omega)];rfl,fun c h=>by injection h with h;omega⟩
     · rw [h2];refine⟨?_,fun c h=>by cases h⟩;have:¬p - t<n:=fun h=>h1 (p - t).toNat (by omega) (by omega);rw [decide_eq_false this];rfl
    obtain⟨hr1,hr2⟩:=hr;have Hr2:=Lib.hid hr2;rw [hr1];clear hlc hr1 hr2;go_enter Tryz.func375,Tryz.ntmps375
    go_wp2_with fail
    go_quiet (fail)
    go_wp2_with fail
    go_ret2
    exact⟨_,rfl,Hr2.out,below_drewN ((Below.refl _ w).alloc (Nat.le_refl _) _) _⟩
  · have hr:lst (f,n,t,none) p=none:=by
     rcases hlc with⟨k,h1,h2,_,h4⟩|⟨h1,h2⟩
     · omega
     · exact h2
    have Hr:=Lib.hid hr;rw [hr];clear hlc hr;go_enter Tryz.func375,Tryz.ntmps375
    go_wp2_with fail
    have hd:decide (t≤p)=false:=decide_eq_false (by omega);have hB0:∀o,Below w.heap.size w (w.alloc o).drew:=fun o=>((Below.refl _ w).alloc (Nat.le_refl _) _).drew;refine ZbM (fun w'=>w'.cell? ⟨w.heap.size,0,none⟩=some (.int .i64 (f:Int))∧w'.cell? ⟨w.heap.size,2,none⟩=some (.int .i32 t)) [(0,true),(1,true),(2,true),(3,true),(4,true),(5,true),(6,true),(7,true),(8,true),(9,true),(10,true),(11,true),(12,true),(13,true),(14,true),(15,true),(16,true),(17,true),(18,true),(19,true),(20,true),(21,true),(22,true),(23,true)] (by kernel_rfl) (by kernel_rfl) (by kernel_rfl) (Nat.le_of_ble_eq_true rfl) (fun _ _ d _ _ h=>by cases d<;>exact h) (by constructor<;>(show(w.alloc _).cell? _=_;rw [cell_of_row _ w.heap.size _ _ 322 (0,0) (heap_alloc_new w _)];rfl)) ?_
    repeat (first
     |(refine ZeS rfl (by rfl) ?_;try simp only [Act.put,List.setIfInBounds_toArray,List.set_cons_zero,List.set_cons_succ];try rw [hd])
     |(refine' ZW rfl (by rfl) _ (fun W hSw=>_) _;rotate_left;(obtain⟨sw0,sw2⟩:=hSw;go_simp;try with_reducible rfl);try simp only [Act.put,List.setIfInBounds_toArray,List.set_cons_zero,List.set_cons_succ];try rw [hd]))
    refine ZbD ?_;go_wp2_with fail
    go_ret2
    exact⟨_,rfl,(fun c h=>by cases h),hB0 _⟩
 |some l=>
  obtain⟨ad,cp,cs,fr,hv,hcp,hbk,hsp,hh,hcs⟩:=hs;have hcell:∀j,j<l.length→w.cell? (ad.add j)=some (.int .i32 (l.getD j 0)):=fun j hj=>(Zff hsp hh j).trans (hcs j hj);clear hcs hh;simp only at hv hcp hcell g3;obtain⟨rfl,g4,_⟩:=g3;subst hv;subst g4;obtain⟨bk,off,sp⟩:=ad;simp only at hsp hbk;subst hsp;have hadd:∀j,(⟨bk,off,none⟩:Addr).add j=⟨bk,off+j,none⟩:=fun j=>by unfold Addr.add;split<;>simp_all
  have hget:∀j,j<l.length→l[j]! =l.getD j 0:=fun j hj=>by rw [getElem!_pos l j hj,List.getD,List.getElem?_eq_getElem hj];rfl
  have hlc:=ZjN (f,l.length,0,some l) p;simp only [ZR] at hlc;have hix:∀(o:Obj),Calls Tryz.prog 394 #[.slice (some ⟨bk,off,none⟩) l.length cp,.int .i32 p] (w.alloc o) fun e w'=>e= .returned (.int .i64 (Lib.idxBy (fun x y:Int=>x==y) (l.take l.length) p))∧(w.alloc o)=w':=fun o=>by
   have:=AnyE.slices_Index Tryz.laysIdx (Value.int .i32) (fun x y=>x==y) (EqlAt.int _ _ .i32) bk off l.length cp l p (w.alloc o) (Nat.le_refl _) (by omega) (fun j hj=>by
    rw [World.cell?_alloc_lt _ _ _ hbk,hget j hj,←hadd];exact hcell j hj)
   change Calls Tryz.prog 394 _ _ _ at this
   exact this.mono fun e w' h=>⟨h.1,h.2.symm⟩
  unfold Zee rV slV;simp only;have hr:∃z:Int,Lib.idxBy (fun x y:Int=>x==y) (l.take l.length) p=z∧ -1≤z∧z<1048576∧(lst (f,l.length,0,some l) p).isSome=decide (0≤z)∧∀c,lst (f,l.length,0,some l) p=some c→(f:Int)+z=c:=by
   rcases hlc with⟨k,h1,h2,h3,h4⟩|⟨h1,h2⟩
   · refine⟨k,Lib.idxBy_hit _ l l.length k p (by omega) (Nat.le_refl _) ?_ ?_,by omega,by omega,?_,?_⟩
     · rw [hget k (by omega),h2];simp
     · intro j hj;rw [hget j (by omega)];have:=h3 j hj;exact beq_eq_false_iff_ne.2 (fun e=>this e.symm)
     · rw [h4,decide_eq_true (by omega)];rfl
     · intro c hc;rw [h4] at hc;injection hc with hc
       omega
   · refine⟨-1,Lib.idxBy_miss _ l l.length p (fun j hj=> ?_),by omega,by omega,?_,?_⟩
     · rw [hget j hj];have:=h1 j (by omega);exact beq_eq_false_iff_ne.2 (fun e=>this e.symm)
     · rw [h2];rfl
     · intro c hc;rw [h2] at hc;cases hc
  obtain⟨z,hz,hz1,hz2,hz3,hz4⟩:=hr;rw [hz] at hix;have Hz4:=Lib.hid hz4;have e1:IntKind.i64.wrap ((f:Int)+z)=(f:Int)+z:=IntWalk.i64_in _ (by omega);rw [hz3];clear hlc hz hz3 hz4 hcell hget hadd;go_enter Tryz.func375,Tryz.ntmps375
  go_wp2_with (go_at_call 394;refine(hix _).mono ?_;rintro e w1 ⟨rfl,rfl⟩)
  go_ret2
  exact⟨_,rfl,Hz4.out,(Below.refl _ w).alloc (Nat.le_refl _) _⟩
theorem Zns (x y:Rw×Sl)(W:World):
 Calls Tryz.prog 345 #[.agg (rV x).toArray,.agg (rV y).toArray] W fun e w'=>e= .returned (.int .i64 (Lib.compareInt (x.1.1:Int) (y.1.1:Int)))∧∃q os',w'=Go.Sort.grow (W.drewN q) os':=by
 have hcon:=fun W'=>Tryz.cmp_Compare_int (x.1.1:Int) (y.1.1:Int) W';generalize Lib.compareInt (x.1.1:Int) (y.1.1:Int)=r at hcon⊢;have hcon:∀W,Calls Tryz.prog 346 #[.int .i64 (x.1.1:Int),.int .i64 (y.1.1:Int)] W fun e w'=>e= .returned (.int .i64 r)∧W=w':=fun W=>(hcon W).mono fun e w' h=>⟨h.1,h.2.symm⟩
 unfold rV slV;go_enter Tryz.func345,Tryz.ntmps345
 go_wp2_with (go_at_call 346;refine(hcon _).mono ?_;rintro e w' ⟨rfl,rfl⟩)
 go_ret
 exact⟨rfl,0,_,by rw [Go.Sort.alloc_eq_grow,Go.Sort.alloc_eq_grow,Go.Sort.grow_grow];rfl⟩
def cfR (x y:Rw×Sl):Int:=Lib.compareInt (x.1.1:Int) (y.1.1:Int)
theorem ZeT (x y:Rw×Sl):ltOf cfR x y=decide (x.1.1<y.1.1):=by
 unfold ltOf cfR Lib.compareInt;by_cases h1:x.1.1<y.1.1
 · simp [h1]
 · by_cases h2:y.1.1<x.1.1<;>simp [h1,h2]
theorem ZqA:Go.Sort.SWO (ltOf cfR):=
 ⟨fun x=>by rw [ZeT];simp,fun x y z h1 h2=>by rw [ZeT] at*;simp at*;omega,fun x y z h1 h2=>by rw [ZeT] at*;simp at*;omega⟩
theorem Znr (blk off size:Nat)(w:World):CmpLays Tryz.prog 345 #[] rV 4 cfR blk off size w:=
 fun _ _ _ _ x y=>Zns x y _
theorem ZkJ:∀x:Rw×Sl,∀v∈rV x,v.oneCell'=true:=fun x v hv=>by
 simp only [rV,slV,List.mem_cons,List.not_mem_nil,or_false] at hv;rcases hv with rfl|rfl|rfl|rfl<;>rfl
theorem ZeK {α:Type} (f:α→List Value)(hf:∀x,(f x).length=4):∀(l:List α) (k i:Nat) (x:α),l[k]? =some x→i<4→(l.flatMap f)[k*4+i]? =(f x)[i]?
 |[],k,i,x,h,_=>by simp at h
 |a::l,0,i,x,h,hi=>by
  simp at h;subst h;rw [List.flatMap_cons,Nat.zero_mul,Nat.zero_add,List.getElem?_append_left (by rw [hf];exact hi)]
 |a::l,k+1,i,x,h,hi=>by
  rw [List.flatMap_cons,List.getElem?_append_right (by rw [hf];omega),hf,show(k+1)*4+i - 4=k*4+i by omega];exact ZeK f hf l k i x (by simpa using h) hi
theorem ZdL {α:Type} (f:α→List Value)(hf:∀x,(f x).length=4):∀l:List α,(l.flatMap f).length=l.length*4
 |[]=>rfl
 |a::l=>by rw [List.flatMap_cons,List.length_append,hf,ZdL f hf l,List.length_cons];omega
theorem flat_get (ts:List (Rw×Sl))(j:Nat)(hj:j<ts.length*4):some (Go.Sort.flatK rV 4 ts.toArray)[j]! =(ts.flatMap rV)[j]?:=by
 have hk:j / 4<ts.length:=by omega
 have he:j=j / 4*4+j % 4:=by omega
 rw [Go.Sort.get_flatK _ _ _ _ (by simpa using hj)]
 conv=>rhs;rw [he]
 rw [ZeK rV ZcM ts (j / 4) (j % 4) ts[j / 4] (List.getElem?_eq_getElem hk) (Nat.mod_lt _ (by omega))];have e1:ts.toArray[j / 4]! =ts[j / 4]:=by simp [hk]
 have hlt:j % 4<(rV ts[j / 4]).length:=by rw [ZcM];exact Nat.mod_lt _ (by omega)
 rw [e1,List.getElem?_eq_getElem hlt,getElem!_pos (rV ts[j / 4]) (j % 4) hlt]
theorem Zos {w:World} {base g cap:Nat} {e:TypeId} {ts:List (Rw×Sl)} (h:w.ownsRow base e 4 (.slice (some ⟨g,0,none⟩) ts.length cap) ts.length (ts.flatMap rV)):Go.Sort.HoldsK rV 4 w g 0 ts.toArray:=by
 intro j hj;have hj':j<ts.length*4:=by simpa using hj
 have hl:(ts.flatMap rV).length=ts.length*4:=h.1;refine⟨?_,?_⟩
 · rw [Nat.zero_add,h.cellAt j hj',←flat_get ts j hj'];rfl
 · rw [Nat.zero_add];exact h.frozenAt j
theorem Zgv {w:World} {g n:Nat} {os:Array Obj} (d:Array (Rw×Sl)):w.grownBy (sortWorldK rV 4 w g 0 n d os) (some g):=by
 unfold sortWorldK Go.Sort.putRowK;refine⟨rfl,rfl,rfl,by simp,fun k hk hne=> ?_⟩;rw [Go.Sort.heap_grow_old _ _ (by simpa using hk)];have:g≠k:=fun e=>hne (by rw [e]);simp [Go.Sort.putRow,Go.Sort.mapBlock,Go.Sort.ahead,Array.getElem?_modify,this]
def Zbz (w:World)(B:Nat)(A:Option Addr)(rs:List (Rw×Sl)):Prop:=Reads w B 4 A rs.length (rs.flatMap rV)∧∀ad,A=some ad→ad.spot=none
def SfPost (base g:Nat)(rs:List (Rw×Sl))(w0:World)(e:Ending)(w':World):Prop:=
 e= .returned (.tuple #[])∧∃rs':List (Rw×Sl),rs'.Perm rs∧rs'.Pairwise (fun a b=>a.1.1≤b.1.1)∧(∀j u,(rs'.flatMap rV)[j]? =some u→w'.cell? ⟨g,j,none⟩=some u)∧w0.heap.size≤w'.heap.size∧Below base w0 w'∧w0.grownBy w' (some g)
theorem ZmO (base g cap:Nat)(rs:List (Rw×Sl))(w:World)(h:w.ownsRow base 322 4 (.slice (some ⟨g,0,none⟩) rs.length cap) rs.length (rs.flatMap rV))(hbase:base≤w.heap.size)(hn:rs.length<4611686018427387904):
 Calls Tryz.prog 344 #[.slice (some ⟨g,0,none⟩) rs.length cap,.func (.func 345) #[] #[]] w (SfPost base g rs w):=by
 have hlt:=(h.lt g rfl)
 have eg:∀args w,(callFunc 345 args).run Tryz.prog w= .ok (.enter 345 args) w:=enters_of Tryz.func345 (by kernel_rfl) rfl;have hH:=Zos h;have hcon:=AnyQ.slices_SortFunc Tryz.laysSort 4 Tryz.isAgg322 Tryz.sizeOf322 rV ZcM ZkJ cfR ZqA 345 #[] g 0 cap rs.toArray w eg (Znr g 0 rs.toArray.size w) hH hlt.2 (by simpa using hn);change Calls Tryz.prog 344 _ _ _ at hcon
 have hsz:rs.toArray.size=rs.length:=by simp
 rw [hsz] at hcon;refine hcon.mono ?_;rintro e w' ⟨rfl,d',n,os,hp,hs,rfl⟩;obtain⟨hp1,_,hp3⟩:=hp;have hd:d'.size=rs.length:=by rw [hp1,hsz]
 have hx1:d'.extract 0 rs.length=d':=by rw [←hd];simp
 have hx2:rs.toArray.extract 0 rs.length=rs.toArray:=by simp
 rw [hx1,hx2] at hp3;have hK:=holdsK_sortWorldK rV 4 w g 0 n rs.toArray d' os hlt.2 hH (by rw [hd,hsz]);refine⟨rfl,d'.toList,by simpa using hp3,?_,fun j u hu=> ?_,?_,?_,Zgv d'⟩
 · rw [List.pairwise_iff_getElem];intro i j hi hj hij;simp only [Array.length_toList] at hi hj;have:=hs i j (Nat.zero_le _) hij (by omega);rw [ZeT,decide_eq_false_iff_not,getElem!_pos d' j hj,getElem!_pos d' i hi] at this;simp only [Array.getElem_toList];omega
 · have hl:(d'.toList.flatMap rV).length=d'.size*4:=by rw [ZdL rV ZcM];simp
   have hj:j<d'.size*4:=by
    rcases Nat.lt_or_ge j (d'.size*4) with h1|h1
    · exact h1
    · rw [List.getElem?_eq_none (by omega)] at hu;cases hu
   have h1:=(hK j (by rw [Go.Sort.size_flatK];exact hj)).1;have h2:=flat_get d'.toList j (by simpa using hj);rw [hu] at h2;rw [Nat.zero_add] at h1;rw [h1,←h2];rfl
 · exact(Zgv (os:=os) (n:=n) d').size
 · exact(Below.refl base w).grown (Zgv d') hbase fun k hk=>by injection hk with hk;omega
end Go.Proofs.YtnbkfkbcpfkddaaGreatDoor
