/- Lemmas for a statement on the tops; conditions: as each says. -/
import Derived.Deep.Heap
import Derived.Sort.OwnSortedInts
import Derived.Lib.AppendZeros
import Derived.Shelf.SlSortCmp.NoneTotal
import Derived.Test.YtlfinljfghhpdaaGreatDoorM4
import Derived.Test.YtlfinljfghhpdaaGreatDoorM5
import Derived.Test.YtlfinljfghhpdaaGreatDoorM21
set_option linter.unusedVariables false
set_option linter.unusedSimpArgs false
set_option maxRecDepth 100000
set_option maxHeartbeats 1000000
namespace Go.Proofs.YtlfinljfghhpdaaGreatDoor
open Go Go.RowKit
theorem bx {w wr:World} {T:TypeId} {cs:Array Value} (hb:Below (w.alloc (.cells cs T)).heap.size (w.alloc (.cells cs T)) wr):
 (∀j,wr.cell? ⟨w.heap.size,j,none⟩=cs[j]?)∧(∀j,wr.frozen? ⟨w.heap.size,j,none⟩=false)∧w.heap.size<wr.heap.size:=by
 have h1:=hb.size;simp only [World.size_alloc] at h1;have hl:w.heap.size<(w.alloc (.cells cs T)).heap.size:=by simp
 have e:=heap_alloc_new w (.cells cs T);refine⟨fun j=> ?_,fun j=> ?_,by omega⟩
 · rw [hb.cell (p:=⟨w.heap.size,j,none⟩) hl,cell_of_row _ w.heap.size j _ T (0,0) e]
 · rw [hb.frozen (p:=⟨w.heap.size,j,none⟩) hl,frozen_of_row _ w.heap.size j _ T e]
theorem bx4 {w wr:World} {T:TypeId} {a b c d:Value} (hb:Below (w.alloc (.cells #[a,b,c,d] T)).heap.size (w.alloc (.cells #[a,b,c,d] T)) wr):
 (wr.cell? ⟨w.heap.size,0,none⟩=some a∧wr.cell? ⟨w.heap.size,1,none⟩=some b∧wr.cell? ⟨w.heap.size,2,none⟩=some c∧wr.cell? ⟨w.heap.size,3,none⟩=some d)∧(wr.frozen? ⟨w.heap.size,0,none⟩=false∧wr.frozen? ⟨w.heap.size,1,none⟩=false∧wr.frozen? ⟨w.heap.size,2,none⟩=false∧wr.frozen? ⟨w.heap.size,3,none⟩=false):=by
 obtain⟨h1,h2,_⟩:=bx hb;exact⟨⟨h1 0,h1 1,h1 2,h1 3⟩,h2 0,h2 1,h2 2,h2 3⟩
theorem ZgP (a:Addr)(i j:Nat):(a.add i).add j=a.add (i+j):=by
 unfold Addr.add;by_cases h1:i=0
 · subst h1;simp
 · by_cases h2:j=0
   · subst h2;simp
   · rw [if_neg h1,if_neg h2,if_neg (by omega)];simp [Nat.add_assoc]
def ZE (r:Rw)(a b:Nat):Rw:=(a,b - a,match r.2.2.2 with
 |none=>(r.2.2.1+((a - r.1:Nat):Int),none)
 |some l=>(0,some ((l.drop (a - r.1)).take (b - a))))
theorem ZfV {r:Rw} {a b:Nat} (h:ZaC r)(h1:r.1≤a)(h2:a<b)(h3:b≤r.1+r.2.1):ZaC (ZE r a b):=by
 obtain⟨f,n,t,q⟩:=r;obtain⟨g1,g2,g3⟩:=h;simp only at g1 g2 g3 h1 h3;cases q with
 |none=>
  simp only at g3;refine⟨by simp [ZE];omega,by simp [ZE];omega,?_⟩;simp only [ZE];omega
 |some l=>
  simp only at g3;refine⟨by simp [ZE];omega,by simp [ZE];omega,?_⟩;simp only [ZE];refine⟨trivial,by rw [List.length_take,List.length_drop];omega,fun p hp=>g3.2.2 p (List.mem_of_mem_drop (List.mem_of_mem_take hp))⟩
theorem Zmr {r:Rw} {a b c:Nat} (h1:r.1≤a)(h2:a≤c)(h3:c<b):ZaL (ZE r a b) (c - a)=ZaL r (c - r.1):=by
 obtain⟨f,n,t,q⟩:=r;simp only at h1;cases q with
 |none=>simp only [ZE,ZaL];omega
 |some l=>
  simp only [ZE,ZaL,List.getD];rw [List.getElem?_take_of_lt (by omega),List.getElem?_drop,show a - f+(c - a)=c - f by omega]
theorem Zmq {r:Rw} {a b:Nat} (h1:r.1≤a)(h3:b≤r.1+r.2.1){x:Pr}:x∈prs (ZE r a b)↔a≤x.1∧x.1<b∧x∈prs r:=by
 have e1:(ZE r a b).1=a:=rfl;have e2:(ZE r a b).2.1=b - a:=rfl;rw [ZbB,ZbB,e1,e2];constructor
 · rintro⟨g1,g2,g3⟩;rw [Zmr h1 g1 (by omega)] at g3;exact⟨g1,by omega,by omega,by omega,g3⟩
 · rintro⟨g1,g2,g3,g4,g5⟩;exact⟨g1,by omega,by rw [Zmr h1 g1 g2];exact g5⟩
def ZgE (x:Rw×Sl)(a b:Nat)(w0:World)(e:Ending)(w':World):Prop:=∃v,e= .returned (.agg (rV (ZE x.1 a b,v)).toArray)∧ZI w' w0.heap.size (ZE x.1 a b,v)∧Below w0.heap.size w0 w'
theorem ZjA (x:Rw×Sl)(a b:Nat)(hx:ZaC x.1)(h1:x.1.1≤a)(h2:a<b)(h3:b≤x.1.1+x.1.2.1)(w:World)(hs:ZI w w.heap.size x):
 Calls Tryz.prog 344 #[.agg (rV x).toArray,.int .i64 (a:Int),.int .i64 (b:Int)] w (ZgE x a b w):=by
 have hsg:=fun(W:World) (hb:Below w.heap.size w W)=>ZjL x a hx ⟨h1,by omega⟩ W ((hs.below hb).more hb.size);obtain⟨⟨f,n,t,q⟩,v⟩:=x;obtain⟨g1,g2,g3⟩:=hx;simp only at g1 g2 g3 h1 h3 hsg;have e1:IntKind.i64.wrap ((b:Int) - a)=(b:Int) - a:=IntWalk.i64_in _ (by omega);have c1:(b:Int) - a=((b - a:Nat):Int):=by omega
 have hnn:=fun(w:World) (a:Option Addr) (n c:Nat)=>run_neq_slice_nil_any (P:=Tryz.prog) w 25 _ a n c 0 0 Tryz.underlying25;cases q with
 |none=>
  obtain rfl:v=(none,0,0):=hs;unfold rV slV at hsg⊢;unfold ZgE rV slV;simp only [ZE] at hsg⊢;have hr:ZaL (f,n,t,none) (a - f)=t+((a - f:Nat):Int):=rfl;rw [hr] at hsg;go_enter Tryz.func344,Tryz.ntmps344
  go_wp2_with (go_at_call 304;refine(hsg _ (((((Below.refl _ w).alloc (Nat.le_refl _) _).alloc (by simp) _).alloc (by simp;omega) _))).mono ?_;rintro e w1 ⟨rfl,hb1⟩;have hB1:=Zf hb1;obtain⟨⟨b0,b1,b2,b3⟩,f0,f1,f2,f3⟩:=bx4 hb1;obtain⟨⟨c0,c1,c2,c3⟩,k0,k1,k2,k3⟩:=bx4 (Zf hb1);simp only [World.size_alloc] at b0 b1 b2 b3 f0 f1 f2 f3 c0 c1 c2 c3 k0 k1 k2 k3)
  refine bodyPost_ret (v:= .agg #[.int .i64 (a:Int),.int .i64 ((b - a:Nat):Int),.int .i32 (t+((a - f:Nat):Int)),.slice none 0 0]) (by simp [results,Tryz.results344,go_sem,c0,c1,c2,c3]) rfl ?_;refine⟨(none,0,0),rfl,rfl,?_⟩;exact(((((Zf (Zf (Zf hb1))).setCell (by simp;omega) _).setCell (by simp) _).setCell (by simp) _).setCell (by simp) _).setCell (by simp) _
 |some l=>
  obtain⟨ad,cp,cs,fr,hv,hcp,hbk,hsp,hh,hcs⟩:=hs;simp only at hv hcp hcs g3;obtain⟨rfl,g4,_⟩:=g3;subst hv;have e2:IntKind.i64.wrap ((a:Int) - f)=(a:Int) - f:=IntWalk.i64_in _ (by omega);have c2:(a:Int) - f=((a - f:Nat):Int):=by omega
  have e3:IntKind.i64.wrap ((b:Int) - f)=(b:Int) - f:=IntWalk.i64_in _ (by omega);have c3:(b:Int) - f=((b - f:Nat):Int):=by omega
  have hfin:ZI w w.heap.size ((a,b - a,0,some ((l.drop (a - f)).take (b - a))),(some (ad.add (a - f)),b - f - (a - f),cp - (a - f))):=by
   have hbk2:(ad.add (a - f)).block=ad.block:=by rw [addr_eq hsp]
   have hof2:(ad.add (a - f)).off=ad.off+(a - f):=by rw [addr_eq hsp]
   refine⟨ad.add (a - f),cp - (a - f),cs,fr,?_,?_,by rw [hbk2];exact hbk,by rw [addr_eq hsp],by rw [hbk2];exact hh,fun j hj=> ?_⟩
   · simp only [List.length_take,List.length_drop];rw [show min (b - a) (l.length - (a - f))=b - f - (a - f) by omega]
   · simp only [List.length_take,List.length_drop];omega
   · simp only [List.length_take,List.length_drop] at hj;have:=hcs (a - f+j) (by omega);rw [hof2,Nat.add_assoc,this];simp only [List.getD];rw [List.getElem?_take_of_lt (by omega),List.getElem?_drop]
  have Hfin:=Lib.hid hfin;have g5:a - f≤b - f:=by omega
  have g6:b - f≤cp:=by omega
  have g7:a - f≤cp:=by omega
  clear hcs hh hfin hsg;unfold ZgE rV slV;simp only [ZE];go_enter Tryz.func344,Tryz.ntmps344
  go_wp2_with fail
  refine bodyPost_ret (v:= .agg #[.int .i64 (a:Int),.int .i64 ((b - a:Nat):Int),.int .i32 0,.slice (some (ad.add (a - f))) (b - f - (a - f)) (cp - (a - f))]) (by simp [results,Tryz.results344,go_sem]) rfl ?_;have hB:∀o1 o2 o3,Below w.heap.size w (((w.alloc o1).alloc o2).alloc o3):=fun o1 o2 o3=>(((Below.refl _ w).alloc (Nat.le_refl _) _).alloc (by simp) _).alloc (by simp;omega) _;exact⟨(some (ad.add (a - f)),b - f - (a - f),cp - (a - f)),rfl,Hfin.out.below (hB _ _ _),hB _ _ _⟩
def pV (p:Pce):List Value:=[.int .i64 p.1,.int .i32 p.2.1,.int .i64 p.2.2.1,.string p.2.2.2.1]
theorem Zmo (p:Pce):(pV p).length=4:=rfl
def Za2:Value:= .agg #[.int .i64 0,.int .i64 0,.int .i32 0,.slice none 0 0]
def Zfb (p:Pce)(w0:World)(e:Ending)(w':World):Prop:=(rowOf p=none∧e= .returned (.tuple #[Za2,.bool false])∨∃r v,rowOf p=some r∧e= .returned (.tuple #[.agg (rV (r,v)).toArray,.bool true])∧ZI w' w'.heap.size (r,v))∧Below w0.heap.size w0 w'
theorem ZfF (f n:Int):Zbe f n=true↔0≤f∧1≤n∧f+n≤1048576:=by unfold Zbe;exact decide_eq_true_iff
theorem ZbJ {w:World} {k j:Nat} {p:Addr} (h:p.block≠k)(v:Value):(w.setCell ⟨k,j,none⟩ v).cell? p=w.cell? p:=
 World.cell?_setCell_other _ _ _ _ (fun e=>h (by rw [←e]))
theorem heap_set {w:World} {k j g:Nat} (h:g≠k)(v:Value):(w.setCell ⟨k,j,none⟩ v).heap[g]? =w.heap[g]?:=Go.Deep.blk_setCell_other w _ v g h
theorem sg_box {w:World} {k:Nat} {ps:List Int} {A:Option Addr} {c f:Nat} (hnum:ZA w w.heap.size .i32 A ps)(hcap:ps.length≤c)(hl:1≤ps.length)(hfr:∀ad,A=some ad→ad.block≠k∧ad.spot=none∧∃cs fr,w.heap[ad.block]? =some (.cells cs 21 fr)∧∀j,j<ps.length→cs[ad.off+j]? =some (.int .i32 (ps.getD j 0)))(v0 v1 v2 v3:Value)(o:Obj):
 ZI (((((w.setCell ⟨k,0,none⟩ v0).setCell ⟨k,1,none⟩ v1).setCell ⟨k,2,none⟩ v2).setCell ⟨k,3,none⟩ v3).alloc o) (((((w.setCell ⟨k,0,none⟩ v0).setCell ⟨k,1,none⟩ v1).setCell ⟨k,2,none⟩ v2).setCell ⟨k,3,none⟩ v3).alloc o).heap.size ((f,ps.length,0,some ps),(A,ps.length,c)):=by
 obtain⟨ad,rfl,hbk,_⟩:=hnum.at_ (i:=0) (by omega);obtain⟨hfa,hsp,cs,fr,hh,hcs⟩:=hfr ad rfl;refine⟨ad,c,cs,fr,rfl,hcap,by simp;omega,hsp,?_,hcs⟩;rw [Below.heap_alloc _ _ _ (by simp;omega),heap_set hfa,heap_set hfa,heap_set hfa,heap_set hfa];exact hh
theorem ZoP (p:Pce)(hp:Zbt p)(hs:p.2.2.2.1.size≤1000000)(w:World)(hT:Zj w):
 Calls Tryz.prog 341 #[.agg (pV p).toArray] w (Zfb p w):=by
 have HN:Hid (rowOf p=none→∀w',Below w.heap.size w w'→Zfb p w (.returned (.tuple #[Za2,.bool false])) w'):=Lib.hid fun h w' hb=>⟨.inl ⟨h,rfl⟩,hb⟩
 have HY:Hid (∀r v w',rowOf p=some r→ZI w' w'.heap.size (r,v)→Below w.heap.size w w'→Zfb p w (.returned (.tuple #[.agg (rV (r,v)).toArray,.bool true])) w'):=Lib.hid fun r v w' h hg hb=>⟨.inr ⟨r,v,h,rfl,hg⟩,hb⟩
 generalize Zfb p w=P at*;unfold Za2 at HN;obtain⟨f,t,n,s,q⟩:=p;obtain⟨hg,hf,ht,hn⟩:=hp;simp only at hg hf ht hn hs;have hB2:∀o1 o2,Below w.heap.size w ((w.alloc o1).alloc o2):=fun o1 o2=>((Below.refl _ w).alloc (Nat.le_refl _) _).alloc (by simp) _;have hrow:rowOf (f,t,n,s,q)=if s.size≠0 then
  match q with
  |some ps=>if 0≤f∧f+ps.length≤1048576 then some (f.toNat,ps.length,0,some ps) else none
  |none=>none
  else if 0≤f∧1≤n∧f+n≤1048576∧Ze t=true∧Ze (t+n - 1)=true∧(t<55296↔t+n - 1<55296) then some (f.toNat,n.toNat,t,none)
  else none:=rfl
 unfold pV;by_cases hz:s.size=0
 · rw [if_neg (by simpa using hz)] at hrow;have hem:s.toList.isEmpty=true:=by
    rw [ByteArray.toList_eq,show s.data.toList=[] from List.eq_nil_of_length_eq_zero (by simpa using hz)];rfl
   have hin:=fun w=>Zgw f n hf w;have hsc:=fun w=>Zem t w;clear hg;cases hi:Zbe f n with
   |false=>
    have hno:¬(0≤f∧1≤n∧f+n≤1048576):=fun h=>by rw [(ZfF f n).2 h] at hi;cases hi
    rw [if_neg (fun h=>hno ⟨h.1,h.2.1,h.2.2.1⟩)] at hrow;have Hf:=Lib.hid (HN.out hrow);rw [hi] at hin;clear HN HY hrow hno;go_enter Tryz.func341,Tryz.ntmps341
    go_wp2_with (go_at_call 380;refine(hin _).mono ?_;rintro e w1 ⟨rfl,rfl⟩)
    refine bodyPost_ret (v:= .tuple #[Za2,.bool false]) (by simp [Za2,results,Tryz.results341,go_sem]) rfl ?_;exact Hf.out _ (hB2 _ _)
   |true=>
    have hyes:=(ZfF f n).1 hi;rw [hi] at hin;cases hst:Ze t with
    |false=>
     rw [if_neg (fun h=>by rw [hst] at h;cases h.2.2.2.1)] at hrow;have Hf:=Lib.hid (HN.out hrow);rw [hst] at hsc;clear HN HY hrow;go_enter Tryz.func341,Tryz.ntmps341
     go_wp2_with (first|(go_at_call 380;refine(hin _).mono ?_;rintro e w1 ⟨rfl,rfl⟩)|(go_at_call 321;refine(hsc _).mono ?_;rintro e w1 ⟨rfl,rfl⟩))
     refine bodyPost_ret (v:= .tuple #[Za2,.bool false]) (by simp [Za2,results,Tryz.results341,go_sem]) rfl ?_;exact Hf.out _ (hB2 _ _)
    |true=>
     rw [hst] at hsc;have h1:=ZeL hst;have e1:IntKind.i64.wrap (n - 1)=n - 1:=IntWalk.i64_in _ (by omega);have e2:IntKind.i32.wrap (n - 1)=n - 1:=IntWalk.i32_in _ (by omega);have e3:IntKind.i32.wrap (t+(n - 1))=t+(n - 1):=IntWalk.i32_in _ (by omega);have hsl:=fun w=>Zem (t+(n - 1)) w;have e4:t+n - 1=t+(n - 1):=by omega
     rw [e4] at hrow;cases hsl2:Ze (t+(n - 1)) with
     |false=>
      rw [if_neg (fun h=>by rw [hsl2] at h;cases h.2.2.2.2.1)] at hrow;have Hf:=Lib.hid (HN.out hrow);rw [hsl2] at hsl;clear HN HY hrow e4;go_enter Tryz.func341,Tryz.ntmps341
      go_wp2_with (first|(go_at_call 380;refine(hin _).mono ?_;rintro e w1 ⟨rfl,rfl⟩)|(go_at_call 321;first|(refine(hsc _).mono ?_;rintro e w1 ⟨rfl,rfl⟩;clear hsc)|(refine(hsl _).mono ?_;rintro e w1 ⟨rfl,rfl⟩)))
      refine bodyPost_ret (v:= .tuple #[Za2,.bool false]) (by simp [Za2,results,Tryz.results341,go_sem]) rfl ?_;exact Hf.out _ (hB2 _ _)
     |true=>
      rw [hsl2] at hsl;by_cases hgap:t<55296↔t+(n - 1)<55296
      · have hgb:(!decide (t<55296)==decide (t+(n - 1)<55296))=false:=by simp [hgap]
        rw [if_pos ⟨hyes.1,hyes.2.1,hyes.2.2,hst,hsl2,hgap⟩] at hrow;have hf2:((f.toNat:Nat):Int)=f:=by omega
        have hn2:((n.toNat:Nat):Int)=n:=by omega
        have Hf:=Lib.hid (HY.out _ (none,0,0) · hrow rfl);unfold rV slV at Hf;simp only [hf2,hn2] at Hf;clear HN HY hrow e4 hf2 hn2 hyes hgap;go_enter Tryz.func341,Tryz.ntmps341
        go_wp2_with (first|(go_at_call 380;refine(hin _).mono ?_;rintro e w1 ⟨rfl,rfl⟩)|(go_at_call 321;first|(refine(hsc _).mono ?_;rintro e w1 ⟨rfl,rfl⟩;clear hsc)|(refine(hsl _).mono ?_;rintro e w1 ⟨rfl,rfl⟩)))
        refine bodyPost_ret (v:= .tuple #[.agg #[.int .i64 f,.int .i64 n,.int .i32 t,.slice none 0 0],.bool true]) (by simp [results,Tryz.results341,go_sem]) rfl ?_;exact Hf.out _ (hB2 _ _)
      · have hgb:(!decide (t<55296)==decide (t+(n - 1)<55296))=true:=by
         have a:t<55296:=by omega
         have b:¬t+(n - 1)<55296:=by omega
         simp [a,b]
        rw [if_neg (fun h=>hgap h.2.2.2.2.2)] at hrow;have Hf:=Lib.hid (HN.out hrow);clear HN HY hrow e4 hgap;go_enter Tryz.func341,Tryz.ntmps341
        go_wp2_with (first|(go_at_call 380;refine(hin _).mono ?_;rintro e w1 ⟨rfl,rfl⟩)|(go_at_call 321;first|(refine(hsc _).mono ?_;rintro e w1 ⟨rfl,rfl⟩;clear hsc)|(refine(hsl _).mono ?_;rintro e w1 ⟨rfl,rfl⟩)))
        refine bodyPost_ret (v:= .tuple #[Za2,.bool false]) (by simp [Za2,results,Tryz.results341,go_sem]) rfl ?_;exact Hf.out _ (hB2 _ _)
 · rw [if_pos (by simpa using hz)] at hrow;have hem:s.toList.isEmpty=false:=by
    have:=(show s.data.toList.length=s.size by simp)
    rw [ByteArray.toList_eq];generalize s.data.toList=l at*;cases l with
    |nil=>simp at this;omega
    |cons _ _=>rfl
   cases q with
   |none=>
    obtain⟨k,hbad⟩:=hg;have hin:∀w,Calls Tryz.prog 380 #[.int .i64 f,.int .i64 0] w fun e w'=>e= .returned (.bool false)∧w=w':=fun w=>by
     have:=Zgw f 0 hf w;rw [show Zbe f 0=false from decide_eq_false (by omega)] at this;exact this
    have hc:=fun w hT=>Zn5 s k hbad (by omega) w hT;have Hf:=Lib.hid (HN.out hrow);clear HN HY hrow;go_enter Tryz.func341,Tryz.ntmps341
    go_wp2_with (first|(go_at_call 380;refine(hin _).mono ?_;rintro e w1 ⟨rfl,rfl⟩)|(go_at_call 366;refine(hc _ (ZN (ZN hT _) _)).mono ?_;rintro e w1 ⟨rfl,hb1⟩;obtain⟨⟨b0,b1,b2,b3⟩,f0,f1,f2,f3⟩:=bx4 hb1;obtain⟨⟨c0,c1,c2,c3⟩,k0,k1,k2,k3⟩:=bx4 (Zf hb1);simp only [World.size_alloc] at b0 b1 b2 b3 f0 f1 f2 f3))
    refine bodyPost_ret (v:= .tuple #[Za2,.bool false]) (by simp [Za2,results,Tryz.results341,go_sem,b0,b1,b2,b3]) rfl ?_;exact Hf.out _ (((((Zf (Zf hb1)).setCell (by simp) _).setCell (by simp) _).setCell (by simp) _).setCell (by simp) _)
   |some ps=>
    have hg:Good s ps:=hg;have hl1:=Zld hg hz;have hl2:=hg.len;have hin:=fun w=>Zgw f ps.length hf w;have hc:=fun w hT=>Zjf s ps hg (by omega) w hT;simp only at hrow;cases hi:Zbe f ps.length with
    |false=>
     rw [if_neg (fun h=>by rw [(ZfF f ps.length).2 ⟨h.1,by omega,h.2⟩] at hi;cases hi)] at hrow;rw [hi] at hin;have Hf:=Lib.hid (HN.out hrow);clear HN HY hrow;go_enter Tryz.func341,Tryz.ntmps341
     go_wp2_with (first|(go_at_call 380;refine(hin _).mono ?_;rintro e w1 ⟨rfl,rfl⟩)|(go_at_call 366;refine(hc _ (ZN (ZN hT _) _)).mono ?_;rintro e w1 ⟨rfl,hb1⟩;obtain⟨⟨b0,b1,b2,b3⟩,f0,f1,f2,f3⟩:=bx4 hb1;obtain⟨⟨c0,c1,c2,c3⟩,k0,k1,k2,k3⟩:=bx4 (Zf hb1);simp only [World.size_alloc] at b0 b1 b2 b3 f0 f1 f2 f3))
     refine bodyPost_ret (v:= .tuple #[Za2,.bool false]) (by simp [Za2,results,Tryz.results341,go_sem,b0,b1,b2,b3]) rfl ?_;exact Hf.out _ (((((Zf (Zf hb1)).setCell (by simp) _).setCell (by simp) _).setCell (by simp) _).setCell (by simp) _)
    |true=>
     have hyes:=(ZfF f ps.length).1 hi;rw [if_pos ⟨hyes.1,hyes.2.2⟩] at hrow;rw [hi] at hin;have hf2:((f.toNat:Nat):Int)=f:=by omega
     have hpt:=fun w hT=>ZoV s ps hg (by omega) w hT;have Hf:=Lib.hid (fun v w'=>HY.out _ v w' hrow);unfold rV slV at Hf;simp only [hf2] at Hf;clear HN HY hrow hf2 hyes;go_enter Tryz.func341,Tryz.ntmps341
     go_wp2_with (first|(go_at_call 380;refine(hin _).mono ?_;rintro e w1 ⟨rfl,rfl⟩)|(go_at_call 366;refine(hc _ (ZN (ZN hT _) _)).mono ?_;rintro e w1 ⟨rfl,hb1⟩;have hz1:=hb1.size;simp only [World.size_alloc] at hz1;obtain⟨⟨b0,b1,b2,b3⟩,f0,f1,f2,f3⟩:=bx4 hb1;obtain⟨⟨c0,c1,c2,c3⟩,k0,k1,k2,k3⟩:=bx4 (Zf hb1);simp only [World.size_alloc] at b0 b1 b2 b3 f0 f1 f2 f3)|(go_at_call 259;refine(hpt _ (Zaz hT (Zf (Zf hb1)) (Nat.le_refl _))).mono ?_;rintro e w2 ⟨A,c,rfl,hcap,hnum,hfr,hb2⟩;have hz2:=hb2.size;have g0:w.heap.size<w2.heap.size:=(by omega);have g1:w.heap.size+1<w2.heap.size:=(by omega);have d0:=(hb2.cell (p:=⟨w.heap.size,0,none⟩) (by show w.heap.size<_;omega)).trans c0;have q0:=(hb2.cell (p:=⟨w.heap.size+1,0,none⟩) (by show w.heap.size+1<_;omega)).trans b0;have q1:=(hb2.cell (p:=⟨w.heap.size+1,1,none⟩) (by show w.heap.size+1<_;omega)).trans b1;have q2:=(hb2.cell (p:=⟨w.heap.size+1,2,none⟩) (by show w.heap.size+1<_;omega)).trans b2;have q3:=(hb2.cell (p:=⟨w.heap.size+1,3,none⟩) (by show w.heap.size+1<_;omega)).trans b3;have r0:=(hb2.frozen (p:=⟨w.heap.size+1,0,none⟩) (by show w.heap.size+1<_;omega)).trans f0;have r1:=(hb2.frozen (p:=⟨w.heap.size+1,1,none⟩) (by show w.heap.size+1<_;omega)).trans f1;have r2:=(hb2.frozen (p:=⟨w.heap.size+1,2,none⟩) (by show w.heap.size+1<_;omega)).trans f2;have r3:=(hb2.frozen (p:=⟨w.heap.size+1,3,none⟩) (by show w.heap.size+1<_;omega)).trans f3))
     refine bodyPost_ret (v:= .tuple #[.agg #[.int .i64 f,.int .i64 ps.length,.int .i32 0,.slice A ps.length c],.bool true]) (by simp [results,Tryz.results341,go_sem,World.cell?_alloc_lt,g1,q0,q1,q2,q3]) rfl ?_;refine Hf.out (A,ps.length,c) _ ?_ ?_
     · exact sg_box hnum hcap hl1 (fun ad e=>⟨by have:=(hfr ad e).1;omega,(hfr ad e).2⟩) _ _ _ _ _
     · exact((((((Zf (Zf hb1)).trans (hb2.mono (by omega))).setCell (by simp) _).setCell (by simp) _).setCell (by simp) _).setCell (by simp) _).alloc (by simp;omega) _
theorem ZqL (x y:Rw×Sl)(W:World):
 Calls Tryz.prog 382 #[.agg (rV x).toArray,.agg (rV y).toArray] W fun e w'=>e= .returned (.int .i64 (Lib.compareInt (x.1.1:Int) (y.1.1:Int)))∧∃q os',w'=Go.Sort.grow (W.drewN q) os':=by
 have hcon:=fun W'=>Tryz.cmp_Compare_int (x.1.1:Int) (y.1.1:Int) W';generalize Lib.compareInt (x.1.1:Int) (y.1.1:Int)=r at hcon⊢;have hcon:∀W,Calls Tryz.prog 383 #[.int .i64 (x.1.1:Int),.int .i64 (y.1.1:Int)] W fun e w'=>e= .returned (.int .i64 r)∧W=w':=fun W=>(hcon W).mono fun e w' h=>⟨h.1,h.2.symm⟩
 unfold rV slV;go_enter Tryz.func382,Tryz.ntmps382
 go_wp2_with (go_at_call 383;refine(hcon _).mono ?_;rintro e w' ⟨rfl,rfl⟩)
 go_ret
 exact⟨rfl,0,_,by rw [Go.Sort.alloc_eq_grow,Go.Sort.alloc_eq_grow,Go.Sort.grow_grow];rfl⟩
def cfR (x y:Rw×Sl):Int:=Lib.compareInt (x.1.1:Int) (y.1.1:Int)
theorem ZfM (x y:Rw×Sl):ltOf cfR x y=decide (x.1.1<y.1.1):=by
 unfold ltOf cfR Lib.compareInt;by_cases h1:x.1.1<y.1.1
 · simp [h1]
 · by_cases h2:y.1.1<x.1.1<;>simp [h1,h2]
theorem Zue:Go.Sort.SWO (ltOf cfR):=
 ⟨fun x=>by rw [ZfM];simp,fun x y z h1 h2=>by rw [ZfM] at*;simp at*;omega,fun x y z h1 h2=>by rw [ZfM] at*;simp at*;omega⟩
theorem ZqK (blk off size:Nat)(w:World):CmpLays Tryz.prog 382 #[] rV 4 cfR blk off size w:=
 fun _ _ _ _ x y=>ZqL x y _
theorem ZmF:∀x:Rw×Sl,∀v∈rV x,v.oneCell'=true:=fun x v hv=>by
 simp only [rV,slV,List.mem_cons,List.not_mem_nil,or_false] at hv;rcases hv with rfl|rfl|rfl|rfl<;>rfl
theorem Zfx {α:Type} (f:α→List Value)(hf:∀x,(f x).length=4):∀(l:List α) (k i:Nat) (x:α),l[k]? =some x→i<4→(l.flatMap f)[k*4+i]? =(f x)[i]?
 |[],k,i,x,h,_=>by simp at h
 |a::l,0,i,x,h,hi=>by
  simp at h;subst h;rw [List.flatMap_cons,Nat.zero_mul,Nat.zero_add,List.getElem?_append_left (by rw [hf];exact hi)]
 |a::l,k+1,i,x,h,hi=>by
  rw [List.flatMap_cons,List.getElem?_append_right (by rw [hf];omega),hf,show(k+1)*4+i - 4=k*4+i by omega];exact Zfx f hf l k i x (by simpa using h) hi
theorem Zev {α:Type} (f:α→List Value)(hf:∀x,(f x).length=4):∀l:List α,(l.flatMap f).length=l.length*4
 |[]=>rfl
 |a::l=>by rw [List.flatMap_cons,List.length_append,hf,Zev f hf l,List.length_cons];omega
theorem flat_get (ts:List (Rw×Sl))(j:Nat)(hj:j<ts.length*4):some (Go.Sort.flatK rV 4 ts.toArray)[j]! =(ts.flatMap rV)[j]?:=by
 have hk:j / 4<ts.length:=by omega
 have he:j=j / 4*4+j % 4:=by omega
 rw [Go.Sort.get_flatK _ _ _ _ (by simpa using hj)]
 conv=>rhs;rw [he]
 rw [Zfx rV ZdB ts (j / 4) (j % 4) ts[j / 4] (List.getElem?_eq_getElem hk) (Nat.mod_lt _ (by omega))];have e1:ts.toArray[j / 4]! =ts[j / 4]:=by simp [hk]
 have hlt:j % 4<(rV ts[j / 4]).length:=by rw [ZdB];exact Nat.mod_lt _ (by omega)
 rw [e1,List.getElem?_eq_getElem hlt,getElem!_pos (rV ts[j / 4]) (j % 4) hlt]
theorem ZrT {w:World} {base g cap:Nat} {e:TypeId} {ts:List (Rw×Sl)} (h:w.ownsRow base e 4 (.slice (some ⟨g,0,none⟩) ts.length cap) ts.length (ts.flatMap rV)):Go.Sort.HoldsK rV 4 w g 0 ts.toArray:=by
 intro j hj;have hj':j<ts.length*4:=by simpa using hj
 have hl:(ts.flatMap rV).length=ts.length*4:=h.1;refine⟨?_,?_⟩
 · rw [Nat.zero_add,h.cellAt j hj',←flat_get ts j hj'];rfl
 · rw [Nat.zero_add];exact h.frozenAt j
theorem Zhv {w:World} {g n:Nat} {os:Array Obj} (d:Array (Rw×Sl)):w.grownBy (sortWorldK rV 4 w g 0 n d os) (some g):=by
 unfold sortWorldK Go.Sort.putRowK;refine⟨rfl,rfl,rfl,by simp,fun k hk hne=> ?_⟩;rw [Go.Sort.heap_grow_old _ _ (by simpa using hk)];have:g≠k:=fun e=>hne (by rw [e]);simp [Go.Sort.putRow,Go.Sort.mapBlock,Go.Sort.ahead,Array.getElem?_modify,this]
def Zb8 (w:World)(B:Nat)(A:Option Addr)(rs:List (Rw×Sl)):Prop:=Reads w B 4 A rs.length (rs.flatMap rV)∧∀ad,A=some ad→ad.spot=none
def SfPost (base g:Nat)(rs:List (Rw×Sl))(w0:World)(e:Ending)(w':World):Prop:=
 e= .returned (.tuple #[])∧∃rs':List (Rw×Sl),rs'.Perm rs∧rs'.Pairwise (fun a b=>a.1.1≤b.1.1)∧(∀j u,(rs'.flatMap rV)[j]? =some u→w'.cell? ⟨g,j,none⟩=some u)∧w0.heap.size≤w'.heap.size∧Below base w0 w'∧w0.grownBy w' (some g)
theorem ZpU (base g cap:Nat)(rs:List (Rw×Sl))(w:World)(h:w.ownsRow base 331 4 (.slice (some ⟨g,0,none⟩) rs.length cap) rs.length (rs.flatMap rV))(hbase:base≤w.heap.size)(hn:rs.length<4611686018427387904):
 Calls Tryz.prog 381 #[.slice (some ⟨g,0,none⟩) rs.length cap,.func (.func 382) #[] #[]] w (SfPost base g rs w):=by
 have hlt:=(h.lt g rfl)
 have eg:∀args w,(callFunc 382 args).run Tryz.prog w= .ok (.enter 382 args) w:=enters_of Tryz.func382 (by kernel_rfl) rfl;have hH:=ZrT h;have hcon:=AnyQ.slices_SortFunc Tryz.laysSort 4 Tryz.isAgg331 Tryz.sizeOf331 rV ZdB ZmF cfR Zue 382 #[] g 0 cap rs.toArray w eg (ZqK g 0 rs.toArray.size w) hH hlt.2 (by simpa using hn);change Calls Tryz.prog 381 _ _ _ at hcon
 have hsz:rs.toArray.size=rs.length:=by simp
 rw [hsz] at hcon;refine hcon.mono ?_;rintro e w' ⟨rfl,d',n,os,hp,hs,rfl⟩;obtain⟨hp1,_,hp3⟩:=hp;have hd:d'.size=rs.length:=by rw [hp1,hsz]
 have hx1:d'.extract 0 rs.length=d':=by rw [←hd];simp
 have hx2:rs.toArray.extract 0 rs.length=rs.toArray:=by simp
 rw [hx1,hx2] at hp3;have hK:=holdsK_sortWorldK rV 4 w g 0 n rs.toArray d' os hlt.2 hH (by rw [hd,hsz]);refine⟨rfl,d'.toList,by simpa using hp3,?_,fun j u hu=> ?_,?_,?_,Zhv d'⟩
 · rw [List.pairwise_iff_getElem];intro i j hi hj hij;simp only [Array.length_toList] at hi hj;have:=hs i j (Nat.zero_le _) hij (by omega);rw [ZfM,decide_eq_false_iff_not,getElem!_pos d' j hj,getElem!_pos d' i hi] at this;simp only [Array.getElem_toList];omega
 · have hl:(d'.toList.flatMap rV).length=d'.size*4:=by rw [Zev rV ZdB];simp
   have hj:j<d'.size*4:=by
    rcases Nat.lt_or_ge j (d'.size*4) with h1|h1
    · exact h1
    · rw [List.getElem?_eq_none (by omega)] at hu;cases hu
   have h1:=(hK j (by rw [Go.Sort.size_flatK];exact hj)).1;have h2:=flat_get d'.toList j (by simpa using hj);rw [hu] at h2;rw [Nat.zero_add] at h1;rw [h1,←h2];rfl
 · exact(Zhv (os:=os) (n:=n) d').size
 · exact(Below.refl base w).grown (Zhv d') hbase fun k hk=>by injection hk with hk;omega
end Go.Proofs.YtlfinljfghhpdaaGreatDoor
namespace Go.Proofs.YtlfinljfghhpdaaGreatDoor
open Go Go.RowKit Go.Lib
theorem Zi4 (zv:Value)(m:Nat):Builtin.zeroCells #[zv] m=(List.replicate m zv).toArray:=by
 unfold Builtin.zeroCells;apply Array.ext
 · simp
 · intro i h1 h2;simp [Nat.mod_one]
section
variable {P:Program}
theorem Ztp (w:World)(base:Nat)(t tn ty e:TypeId)(i:TypeInfo)(z zv:Value)(ht:P.underlying t=some (.slice e))(htn:P.underlying tn=some (.int .i64))(hi:P.info? e=some i)(hz:i.zero=some z)
 (hsize:i.size=1) (hby:i.bytes=1) (hzc:z.cells=#[zv]) (h1:zv.oneCell'=true) (v:Value) (n:Nat) (xs:List Value) (hown:w.ownsRow base e 1 v n xs) (m:Nat) (hm:0<m) (hN:n+m≤2000000) (hbase:base≤w.heap.size):
 ∃v' w',(Builtin.append_ #[t,tn] ty #[v,.int .i64 m]).run P w= .ok v' w'∧w'.ownsRow base e 1 v' (n+m) (xs++List.replicate m zv)∧w.grownBy w' v.ownBlock:=by
 have hlen:(xs++List.replicate m zv).length=(n+m)*1:=by rw [List.length_append,hown.1];simp
 have hw:IntKind.i64.wrap (m:Int)=m:=by rw [IntKind.wrap_i64];omega
 have hneg:¬((m:Int)<0):=by omega
 have h48i:¬(281474976710656<(m:Int)):=by omega
 have hm0:¬m=0:=by omega
 have h1a:∀u∈List.replicate m zv,u.oneCell'=true:=fun u hu=>by rw [List.eq_of_mem_replicate hu];exact h1
 have grown:∀(old:Nat),old<n+m→∀(row:Option Nat),
  (w.drew.alloc (.cells (xs.toArray++(List.replicate m zv).toArray++Builtin.zeroCells z.cells (grownCap w (n+m) old e - (n+m))) e)).ownsRow base e 1
   (.slice (some ⟨w.heap.size,0,none⟩) (n+m) (grownCap w (n+m) old e)) (n+m) (xs++List.replicate m zv)∧
  w.grownBy (w.drew.alloc (.cells (xs.toArray++(List.replicate m zv).toArray++Builtin.zeroCells z.cells (grownCap w (n+m) old e - (n+m))) e)) row:=by
  intro old ho row;have hge:=grownCap_ge w (n+m) old e;have hcm:grownCap w (n+m) old e≤maxLen:=grownCap_le_maxLen w (n+m) old e (by unfold maxLen;omega);refine⟨⟨hlen,.inr ⟨w.heap.size,_,_,rfl,hbase,heap_alloc_new w.drew _,hge,hcm,?_,?_⟩⟩,⟨rfl,rfl,rfl,by simp,fun k hk _=>by apply heap_alloc_old;exact hk⟩⟩
  · rw [hzc];simp only [Array.size_append,List.size_toArray,size_zeroCells,hown.1,List.length_replicate];simp;omega
  · simp only [Array.toList_append,List.append_assoc];rw [←List.append_assoc,←hlen];exact List.take_left
 rcases hown.2 with⟨rfl,rfl⟩|⟨g,cap,cur,rfl,hbg,hg,hnc,hcm,hcs,htake⟩
 · have hx:xs=[]:=List.eq_nil_of_length_eq_zero (by simpa using hown.1);subst hx;have hr:=run_append_nil_zeros (P:=P) w t tn ty e i z .i64 .i64 ht htn hi hz m hm (by omega) (by omega) (by rw [hby];omega);have hgr:=grown 0 (by omega) (Value.ownBlock (.slice none 0 0));rw [hzc,Zi4] at hr;simp only [Nat.zero_add,List.nil_append,Array.empty_append,hzc] at hgr⊢;exact⟨_,_,hr,hgr.1,hgr.2⟩
 · by_cases hroom:n+m≤cap
   · have hfit:n*1+(List.replicate m zv).length≤cur.size:=by rw [hcs];simp;omega
     have hst:=run_storeCells_at P g (n*1) e (List.replicate m zv) 0 cur w hg (by simpa using hfit) h1a;simp only [Nat.add_zero] at hst;have hr:(Builtin.append_ #[t,tn] ty #[.slice (some ⟨g,0,none⟩) n cap,.int .i64 m]).run P w= .ok (.slice (some ⟨g,0,none⟩) (n+m) cap) (w.setRow g (cur.toList.take (n*1)++List.replicate m zv++cur.toList.drop (n*1+(List.replicate m zv).length)).toArray):=by
      simp [Builtin.append_,run_underlying ht,run_underlying htn,sizeOf,typeInfo,zeroValue,hi,hz,hsize,hby,hzc,Zi4,asInt,asIntOf,hw,hneg,h48i,hroom,hm0,Addr.add_lit,Nat.mul_one] at hst⊢;rw [hst];rfl
     refine⟨_,_,hr,⟨hlen,.inr ⟨g,cap,_,rfl,hbg,setRow_heap w g cur _ e _ hg,hroom,hcm,?_,?_⟩⟩,⟨rfl,rfl,rfl,by simp,fun k _ hk=>setRow_other w g k _ (fun e=>hk (by simp [Value.ownBlock,e]))⟩⟩
     · simp only [List.size_toArray,List.length_append,List.length_take,List.length_drop,Array.length_toList];omega
     · rw [htake,←hlen];exact List.take_left
   · have holds:∀j u,xs[j]? =some u→w.cell? ((⟨g,0,none⟩:Addr).add j)=some u:=hown.cells (g:=g) rfl;have hn:¬(n+m≤cap):=by omega
     have h63':¬(9223372036854775807<((n:Int)+(m:Int))):=by omega
     have h48':¬(281474976710656<Builtin.nextslicecap (n+m) cap):=by
      have:=growslice_fits (need:=n+m) (bytes:=1) (by omega:cap<n+m) (by omega);omega
     have hfo:=run_firstCells_some (P:=P) w.drew 1 n ⟨g,0,none⟩ n cap xs hown.1 (by simpa using holds);have hr:(Builtin.append_ #[t,tn] ty #[.slice (some ⟨g,0,none⟩) n cap,.int .i64 m]).run P w= .ok (.slice (some ⟨w.heap.size,0,none⟩) (n+m) (grownCap w (n+m) cap e)) (w.drew.alloc (.cells (xs.toArray++(List.replicate m zv).toArray++Builtin.zeroCells z.cells (grownCap w (n+m) cap e - (n+m))) e)):=by
      simp [Builtin.append_,run_underlying ht,run_underlying htn,sizeOf,typeInfo,zeroValue,hi,hz,hsize,hby,hzc,Zi4,asInt,asIntOf,hw,hneg,h48i,hn,h63',h48',hm0,Question.forced,hfo,newRow,grownCap]
     have hgr:=grown cap (by omega) (Value.ownBlock (.slice (some ⟨g,0,none⟩) n cap));exact⟨_,_,hr,hgr.1,hgr.2⟩
end
end Go.Proofs.YtlfinljfghhpdaaGreatDoor
namespace Go.Proofs.YtlfinljfghhpdaaGreatDoor
open Go Go.RowKit
def Zgp (base:Nat)(v:Value)(rs:List (Rw×Sl))(w0:World)(e:Ending)(w':World):Prop:=
 e= .returned (.tuple #[])∧∃A c,∃rs':List (Rw×Sl),v= .slice A rs.length c∧rs.length≤c∧rs'.Perm rs∧rs'.Pairwise (fun a b=>a.1.1≤b.1.1)∧Zb8 w' w'.heap.size A rs'∧Below base w0 w'∧w0.grownBy w' v.ownBlock
theorem Zi6 (base:Nat)(v:Value)(rs:List (Rw×Sl))(w:World)(h:w.ownsRow base 331 4 v rs.length (rs.flatMap rV))(hbase:base≤w.heap.size)(hn:rs.length<4611686018427387904):
 Calls Tryz.prog 342 #[v] w (Zgp base v rs w):=by
 have hfin:∃A c,v= .slice A rs.length c∧rs.length≤c∧Calls Tryz.prog 381 #[.slice A rs.length c,.func (.func 382) #[] #[]] w (Zgp base v rs w):=by
  by_cases h0:rs=[]
  · subst h0;obtain⟨A,c,hv,hc,_⟩:=Reads.of_own h;refine⟨A,c,hv,hc,?_⟩;have:=AnyF.slices_SortFunc_none Tryz.laysSort A c (.func (.func 382) #[] #[]) w;change Calls Tryz.prog 381 _ _ _ at this
    refine this.mono ?_;rintro e w' ⟨rfl,rfl⟩;refine⟨rfl,A,c,[],hv,hc,List.Perm.refl _,by simp,⟨Reads.none_,?_⟩,Below.refl _ _,⟨rfl,rfl,rfl,Nat.le_refl _,fun _ _ _=>rfl⟩⟩;intro ad hA;subst hA;rw [hv] at h;exact Zmd h
  · have hpos:0<rs.length:=List.length_pos_iff.2 h0;rcases h.2 with⟨_,h2⟩|⟨g,cap,cur,rfl,hbg,hg,hnc,hcm,hcs,htake⟩
    · omega
    · refine⟨_,cap,rfl,hnc,?_⟩;refine(ZpU base g cap rs w h hbase hn).mono ?_;rintro e w' ⟨rfl,rs',h1,h2,h3,h4,h5,h6⟩;have hlt:=(h.lt g rfl).2;refine⟨rfl,_,cap,rs',rfl,hnc,h1,h2,⟨⟨Zev rV ZdB rs',fun _=>⟨_,rfl,by show g<_;omega,fun j u hu=> ?_⟩⟩,fun ad had=>by injection had with had;subst had;rfl⟩,h5,h6⟩;rw [addr_eq rfl];simpa using h3 j u hu
 obtain⟨A,c,hv,hc,hs⟩:=hfin;generalize hP:Zgp base v rs w=P at*;subst hv;go_enter Tryz.func342,Tryz.ntmps342
 go_wp2_with (go_at_call 381;refine hs.mono ?_;intro e w1 hp1;have he:e= .returned (.tuple #[]):=(by rw [←hP] at hp1;exact hp1.1);subst he)
 go_end0
 exact hp1
def ZbD (l:List Bool)(a b:Nat):List Bool:=l.mapIdx fun j x=>x||(decide (a≤j)&&decide (j<b))
theorem Zeb (l:List Bool)(a b:Nat):(ZbD l a b).length=l.length:=by simp [ZbD]
theorem Zim (l:List Bool)(a b c:Nat)(hc:c<l.length):(ZbD l a b)[c]? =some (l[c]||(decide (a≤c)&&decide (c<b))):=by
 unfold ZbD;rw [List.getElem?_mapIdx,List.getElem?_eq_getElem hc];rfl
theorem Zm1 (l:List Bool)(a:Nat):ZbD l a a=l:=by
 apply List.ext_getElem?
 intro j;unfold ZbD;rw [List.getElem?_mapIdx];cases l[j]? with
 |none=>rfl
 |some x=>
  simp only [Option.map_some];congr 1
  by_cases h:a≤j
  · rw [decide_eq_false (by omega:¬j<a)];simp
  · rw [decide_eq_false h];simp
theorem Zm0 (l:List Bool)(a c:Nat)(h:a≤c):ZbD l a (c+1)=(ZbD l a c).set c true:=by
 apply List.ext_getElem?
 intro j;rw [List.getElem?_set];unfold ZbD;rw [List.getElem?_mapIdx,List.getElem?_mapIdx,List.length_mapIdx];by_cases hj:c=j
 · subst hj;rw [if_pos rfl];by_cases hl:c<l.length
   · rw [if_pos hl,List.getElem?_eq_getElem hl];simp only [Option.map_some];rw [decide_eq_true h,decide_eq_true (by omega:c<c+1)];simp
   · rw [if_neg hl,List.getElem?_eq_none (by omega)];rfl
 · rw [if_neg hj];cases l[j]? with
   |none=>rfl
   |some x=>
    simp only [Option.map_some];have:decide (j<c+1)=decide (j<c):=decide_eq_decide.2 (by omega);rw [this]
def ZcS (bits:List Bool)(acc:List Rw):Prop:=(∀r∈acc,r.1+r.2.1≤bits.length)∧∀c,c<bits.length→bits[c]? =some (acc.any fun q=>decide (q.1≤c)&&decide (c<q.1+q.2.1))
theorem ZtL:ZcS [] []:=⟨by simp,by simp⟩
theorem ZtK {bits:List Bool} {acc:List Rw} (h:ZcS bits acc)(m:Nat):ZcS (bits++List.replicate m false) acc:=by
 obtain⟨h1,h2⟩:=h;refine⟨fun r hr=>by have:=h1 r hr;simp;omega,fun c hc=> ?_⟩;by_cases hl:c<bits.length
 · rw [List.getElem?_append_left hl];exact h2 c hl
 · simp only [List.length_append,List.length_replicate] at hc;rw [List.getElem?_append_right (by omega),List.getElem?_replicate,if_pos (by omega)];congr 1
   symm
   rw [List.any_eq_false];intro q hq;have:=h1 q hq;simp;omega
theorem ZmY {bits:List Bool} {acc:List Rw} {r:Rw} {c:Nat} (h:ZcS bits acc)(hc:r.1≤c∧c<r.1+r.2.1)(hb:bits[c]? =some true):ovl acc r=true:=by
 have hl:c<bits.length:=by
  rcases Nat.lt_or_ge c bits.length with h1|h1
  · exact h1
  · rw [List.getElem?_eq_none h1] at hb;cases hb
 rw [h.2 c hl] at hb;injection hb with hb
 obtain⟨q,hq,hq2⟩:=List.any_eq_true.1 hb;refine List.any_eq_true.2 ⟨q,hq,?_⟩;simp only [Bool.and_eq_true,decide_eq_true_eq] at hq2⊢;omega
theorem ZmZ {bits:List Bool} {acc:List Rw} {r:Rw} (h:ZcS bits acc)(hok:∀q∈acc,1≤q.2.1)(hr:1≤r.2.1)(he:r.1+r.2.1≤bits.length)(hb:∀c,r.1≤c→c<r.1+r.2.1→bits[c]? =some false):
 ovl acc r=false∧ZcS (ZbD bits r.1 (r.1+r.2.1)) (acc++[r]):=by
 constructor
 · rw [ovl,List.any_eq_false];intro q hq hc;simp only [Bool.and_eq_true,decide_eq_true_eq] at hc;have h1:=hok q hq;have h2:=hb (max q.1 r.1) (by omega) (by omega);rw [h.2 _ (by omega)] at h2;injection h2 with h2
   have h3:=List.any_eq_false.1 h2 q hq;simp only [Bool.and_eq_true,decide_eq_true_eq,not_and] at h3;omega
 · refine⟨fun q hq=> ?_,fun c hc=> ?_⟩
   · rw [Zeb];rcases List.mem_append.1 hq with h1|h1
     · exact h.1 q h1
     · simp only [List.mem_singleton] at h1;subst h1;exact he
   · rw [Zeb] at hc;rw [Zim _ _ _ _ hc];have h2:=h.2 c hc;rw [List.getElem?_eq_getElem hc] at h2;injection h2 with h2
     rw [h2,List.any_append];simp
end Go.Proofs.YtlfinljfghhpdaaGreatDoor
