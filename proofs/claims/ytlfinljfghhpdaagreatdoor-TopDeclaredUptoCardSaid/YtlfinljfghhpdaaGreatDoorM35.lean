/- Lemmas for a statement on the tops; conditions: as each says. -/
import Derived.Deep.CutBlock
import Derived.Test.YtlfinljfghhpdaaGreatDoorM34
set_option linter.unusedVariables false
set_option linter.unusedSimpArgs false
set_option maxRecDepth 100000
set_option maxHeartbeats 4000000
namespace Go.Proofs.YtlfinljfghhpdaaGreatDoor
open Go Go.RowKit
structure Pi where
 nm:ByteArray
 raw:Bool
 text:List UInt8
 set:Int
end Go.Proofs.YtlfinljfghhpdaaGreatDoor
namespace Go.Proofs.YtlfinljfghhpdaaGreatDoor
open Go
def Chunk (c:Nat)(bs:List UInt8)(ps:List Int):Prop:=∀r i,Zk (sg2 c) (bs++r) i=Zam ps (Zk (sg2 c) r (i+bs.length))
theorem Zki (c:Nat):Chunk c [] []:=fun r i=>by rw [Zku];rfl
theorem Chunk.app {c:Nat} {a b:List UInt8} {ps qs:List Int} (h:Chunk c a ps)(g:Chunk c b qs):Chunk c (a++b) (ps++qs):=fun r i=>by
 rw [List.append_assoc,h,g,Zg9,List.length_append,Nat.add_assoc]
theorem Zkh (c:Nat)(x:UInt8)(h:x.toNat<128):Chunk c [x] [(x.toNat:Int)]:=fun r i=>by
 cases r with
 |nil=>simp [Zk,h,Zam]
 |cons y r=>simp [Zk,h]
theorem ZgZ (c:Nat)(a b:UInt8)(h:¬a.toNat<128)(hs:sg2 c a b≠[]):Chunk c [a,b] (sg2 c a b):=fun r i=>by
 show Zk (sg2 c) (a::b::r) i=_
 rw [Zk,if_neg h,if_neg hs];rfl
theorem Chunk.all {c:Nat} {bs:List UInt8} {ps:List Int} (h:Chunk c bs ps)(i:Nat):Zk (sg2 c) bs i= .inl ps:=by
 have:=h [] i;rw [List.append_nil] at this;rw [this];simp [Zk,Zam]
def ZaD (c:Nat)(bs:List UInt8)(ps:List Int):Prop:=if c≤3 then bs.map (fun x=>ZJ c x.toNat)=ps else c≤6∧Chunk c bs ps
theorem ZaD.app {c:Nat} {a b:List UInt8} {ps qs:List Int} (h:ZaD c a ps)(g:ZaD c b qs):ZaD c (a++b) (ps++qs):=by
 unfold ZaD at*;split
 · next hc=>rw [if_pos hc] at h g;rw [List.map_append,h,g]
 · next hc=>rw [if_neg hc] at h g;exact⟨h.1,h.2.app g.2⟩
theorem ZaD.dec {c:Nat} {bs:List UInt8} {ps:List Int} (h:ZaD c bs ps):Zbb c bs= .inl ps:=by
 unfold ZaD at h;unfold Zbb;split
 · next hc=>rw [if_pos hc] at h;rw [h]
 · next hc=>rw [if_neg hc] at h;rw [if_pos h.1];exact h.2.all 0
theorem ZtR (c n:Nat)(h:n<128):ZJ c n=n:=by
 unfold ZJ;rw [if_pos (.inr h)]
theorem Zno {c:Nat} (hc:c≤6):∀l:List UInt8,(∀x∈l,x.toNat<128)→ZaD c l (l.map fun x=>(x.toNat:Int))
 |[],_=>by
  unfold ZaD;split
  · rfl
  · exact⟨hc,Zki c⟩
 |x::l,h=>by
  have ih:=Zno hc l fun y hy=>h y (List.mem_cons_of_mem _ hy);have hx:=h x (List.mem_cons_self ..);refine ZaD.app (a:=[x]) (ps:=[(x.toNat:Int)]) ?_ ih;unfold ZaD;split
  · simp only [List.map_cons,List.map_nil,ZtR c _ hx]
  · exact⟨hc,Zkh c x hx⟩
def ZF (n:Nat):List UInt8:=[UInt8.ofNat (n / 256),UInt8.ofNat (n % 256)]
theorem ZiD (n:Nat)(h:n<65536):(UInt8.ofNat (n / 256)).toNat=n / 256∧(UInt8.ofNat (n % 256)).toNat=n % 256:=by
 simp only [UInt8.toNat_ofNat'];omega
theorem Zkk {n:Nat} {p:Int} (hn:n<65536)(h8:32768≤n)(h:Z2 ((n / 256:Nat):Int) ((n % 256:Nat):Int) p)(h0:p≠0)(hs:Ze p=true):Chunk 4 (ZF n) [p]:=by
 obtain⟨e1,e2⟩:=ZiD n hn;have hz:Zcp (UInt8.ofNat (n / 256)) (UInt8.ofNat (n % 256))=p:=ZuQ (by rw [e1,e2];exact h);have hg:sg2 4 (UInt8.ofNat (n / 256)) (UInt8.ofNat (n % 256))=[p]:=by
  unfold sg2;rw [if_pos rfl,hz,if_pos ⟨h0,hs⟩]
 have:=ZgZ 4 (UInt8.ofNat (n / 256)) (UInt8.ofNat (n % 256)) (by omega) (by rw [hg];simp);rw [hg] at this;exact this
theorem ZqI {n:Nat} {p:Int} (hn:n<65536)(h8:32768≤n)(h:ZZ (n:Int)=p)(h0:p≠0):Chunk 5 (ZF n) [p]:=by
 obtain⟨e1,e2⟩:=ZiD n hn;have he:((UInt8.ofNat (n / 256)).toNat*256+(UInt8.ofNat (n % 256)).toNat:Nat)=n:=by omega
 have hg:sg2 5 (UInt8.ofNat (n / 256)) (UInt8.ofNat (n % 256))=[p]:=by
  unfold sg2;rw [if_neg (by decide),if_pos rfl,he,h,if_neg h0]
 have:=ZgZ 5 (UInt8.ofNat (n / 256)) (UInt8.ofNat (n % 256)) (by omega) (by rw [hg];simp);rw [hg] at this;exact this
theorem Zkg {n:Nat} {ps:List Int} (hn:n<65536)(h8:32768≤n)(h:Z5 ((n / 256:Nat):Int) ((n % 256:Nat):Int)=ps)(h0:ps≠[]):Chunk 6 (ZF n) ps:=by
 obtain⟨e1,e2⟩:=ZiD n hn;have hg:sg2 6 (UInt8.ofNat (n / 256)) (UInt8.ofNat (n % 256))=ps:=by
  unfold sg2;rw [if_neg (by decide),if_neg (by decide),e1,e2,h]
 have:=ZgZ 6 (UInt8.ofNat (n / 256)) (UInt8.ofNat (n % 256)) (by omega) (by rw [hg];exact h0);rw [hg] at this;exact this
end Go.Proofs.YtlfinljfghhpdaaGreatDoor
namespace Go.Proofs.YtlfinljfghhpdaaGreatDoor
open Go Go.RowKit
def medL:List Int:=[-2, -2, -1,0,1,2,3,4, -2, -2,5,6,7,8,9,10, -2, -2,11,12,13,14,15,16, -2, -2,17,18,19,20, -2, -2]
def ZbU:List Int:=[0,1,103,2,105,106,3,4,5,109,110,111,112,113,114,115,6,7,8,118,9,10,11,12,13,14,15,16,17,18]
theorem med_eq {c:Nat} (hc:c<32):medL.getD c 0=Zat c:=by
 have h:(List.range 32).all (fun c=>decide (medL.getD c 0=Zat c))=true:=by decide+kernel
 simpa using List.all_eq_true.1 h c (List.mem_range.2 hc)
def Zcx (part:Int):Int:=match ZbU.findIdx? (· ==part) with|some i=>12593+i|none=>0
theorem Zqn {i:Nat} (hi:i<19):Zcx i=Zab (65+i):=by
 have h:(List.range 19).all (fun i=>decide (Zcx i=Zab (65+i)))=true:=by decide+kernel
 simpa using List.all_eq_true.1 h i (List.mem_range.2 hi)
theorem Zql {f:Nat} (hf:f<28)(h0:0<f):Zcx ((100+f:Nat):Int)=Zab (97+f):=by
 have h:(List.range 28).all (fun f=>decide (0<f→Zcx ((100+f:Nat):Int)=Zab (97+f)))=true:=by decide+kernel
 have:=List.all_eq_true.1 h f (List.mem_range.2 hf);simp only [decide_eq_true_eq] at this;exact this h0
theorem ZjY (g j:Nat):(⟨g,0,none⟩:Addr).add j=⟨g,j,none⟩:=by unfold Addr.add;split<;>simp_all
theorem Zpc (c:Nat)(hc:c<32)(w:World):Calls Tryz.prog 110 #[.int .i64 (c:Nat)] w fun e w'=>e= .returned (.int .i64 (Zat c))∧Below w.heap.size w w':=by
 have hn:=Zc1 w 3 medL .i64;have h1:(w.alloc (.cells #[.int .i64 (-2),.int .i64 (-2),.int .i64 (-1),.int .i64 0,.int .i64 1,.int .i64 2,.int .i64 3,.int .i64 4,.int .i64 (-2),.int .i64 (-2),.int .i64 5,.int .i64 6,.int .i64 7,.int .i64 8,.int .i64 9,.int .i64 10,.int .i64 (-2),.int .i64 (-2),.int .i64 11,.int .i64 12,.int .i64 13,.int .i64 14,.int .i64 15,.int .i64 16,.int .i64 (-2),.int .i64 (-2),.int .i64 17,.int .i64 18,.int .i64 19,.int .i64 20,.int .i64 (-2),.int .i64 (-2)] 3)).cell? ⟨w.heap.size,c,none⟩=some (.int .i64 (Zat c)):=by
  obtain⟨ad,hA,_,h⟩:=hn.at_ (i:=c) hc;injection hA with hA
  subst hA;rw [med_eq hc,ZjY] at h;exact h
 clear hn;generalize Zat c=m at*;go_enter Tryz.func110,Tryz.ntmps110
 go_wp2
 go_ret
 exact⟨rfl,(Below.refl _ w).alloc (Nat.le_refl _) _⟩
theorem Zo6 (c:Nat)(hc:c<32)(w:World):Calls Tryz.prog 111 #[.int .i64 (c:Nat)] w fun e w'=>e= .returned (.int .i64 (Zac c))∧w=w':=by
 by_cases h0:c=0
 · subst h0;go_enter Tryz.func111,Tryz.ntmps111
   go_wp2
   go_ret
   exact⟨rfl,rfl⟩
 by_cases h1:c=18
 · subst h1;go_enter Tryz.func111,Tryz.ntmps111
   go_wp2
   go_ret
   exact⟨rfl,rfl⟩
 have e0:((c:Int)==0)=false:=by simpa using h0
 have e1:((c:Int)==18)=false:=by rw [beq_eq_false_iff_ne];omega
 by_cases h2:29<c
 · have hz:Zac c= -2:=by unfold Zac;(repeat' split)<;>omega
   rw [hz];clear hz h0 h1;go_enter Tryz.func111,Tryz.ntmps111
   go_wp2
   go_ret
   exact⟨rfl,rfl⟩
 by_cases h3:c<18
 · have hz:Zac c=c - 1:=by unfold Zac;(repeat' split)<;>omega
   rw [hz];clear hz h0 h1;go_enter Tryz.func111,Tryz.ntmps111
   go_wp2
   go_ret
   exact⟨rfl,rfl⟩
 · have hz:Zac c=c - 2:=by unfold Zac;(repeat' split)<;>omega
   rw [hz];clear hz h0 h1;go_enter Tryz.func111,Tryz.ntmps111
   go_wp2
   go_ret
   exact⟨rfl,rfl⟩
theorem Zqm {part:Int} {k:Nat} (hk:k<30)(h:∀j,j<k→ZbU.getD j 0≠part)(hx:ZbU.getD k 0=part):Zcx part=12593+k:=by
 have e:ZbU.findIdx? (· ==part)=some k:=by
  rw [List.findIdx?_eq_some_iff_getElem];refine⟨hk,?_,fun j hj=> ?_⟩
  · rw [List.getD_eq_getElem?_getD,List.getElem?_eq_getElem hk] at hx;simpa using hx
  · have:=h j hj;rw [List.getD_eq_getElem?_getD,List.getElem?_eq_getElem (show j<ZbU.length from Nat.lt_trans hj hk)] at this;simpa using this
 unfold Zcx;rw [e]
theorem Zqo {part:Int} (h:∀j,j<30→ZbU.getD j 0≠part):Zcx part=0:=by
 have e:ZbU.findIdx? (· ==part)=none:=by
  rw [List.findIdx?_eq_none_iff];intro x hx;obtain⟨j,hj,rfl⟩:=List.getElem_of_mem hx;have:=h j hj;rw [List.getD_eq_getElem?_getD,List.getElem?_eq_getElem hj] at this;simpa using this
 unfold Zcx;rw [e]
def AlRel (part:Int)(W:World)(i:Value)(wr:World):Prop:=∃k:Nat,k≤30∧i= .int .i64 k∧(∀j,j<k→ZbU.getD j 0≠part)∧wr=W
theorem ZoX (part:Int)(w:World):Calls Tryz.prog 112 #[.int .i64 part] w fun e w'=>e= .returned (.int .i32 (Zcx part))∧Below w.heap.size w w':=by
 have hn:=Zc1 w 3 ZbU .i64;have hb:=(Below.refl w.heap.size w).alloc (Nat.le_refl _) (.cells #[.int .i64 0,.int .i64 1,.int .i64 103,.int .i64 2,.int .i64 105,.int .i64 106,.int .i64 3,.int .i64 4,.int .i64 5,.int .i64 109,.int .i64 110,.int .i64 111,.int .i64 112,.int .i64 113,.int .i64 114,.int .i64 115,.int .i64 6,.int .i64 7,.int .i64 8,.int .i64 118,.int .i64 9,.int .i64 10,.int .i64 11,.int .i64 12,.int .i64 13,.int .i64 14,.int .i64 15,.int .i64 16,.int .i64 17,.int .i64 18] 3);have hcell:∀k:Nat,k<30→(w.alloc (.cells #[.int .i64 0,.int .i64 1,.int .i64 103,.int .i64 2,.int .i64 105,.int .i64 106,.int .i64 3,.int .i64 4,.int .i64 5,.int .i64 109,.int .i64 110,.int .i64 111,.int .i64 112,.int .i64 113,.int .i64 114,.int .i64 115,.int .i64 6,.int .i64 7,.int .i64 8,.int .i64 118,.int .i64 9,.int .i64 10,.int .i64 11,.int .i64 12,.int .i64 13,.int .i64 14,.int .i64 15,.int .i64 16,.int .i64 17,.int .i64 18] 3)).cell? ⟨w.heap.size,k,none⟩=some (.int .i64 (ZbU.getD k 0)):=by
  intro k hk;obtain⟨ad,hA,_,h⟩:=hn.at_ (i:=k) hk;injection hA with hA
  subst hA;rw [ZjY] at h;exact h
 have HC:=Lib.hid hcell;have HB:=Lib.hid hb;clear hn hcell hb;go_enter Tryz.func112,Tryz.ntmps112
 go_wp2
 generalize hW:(w.alloc _)=W at*;go_loopw [4] (fun i wr=>AlRel part W i wr) (fun i _=>30 - (intOf i).toNat)
 case atStart=>exact⟨0,by omega,rfl,fun j hj=>absurd hj (by omega),rfl⟩
 case round=>
  obtain⟨k,hk,rfl,hno,rfl⟩:=hrel;by_cases hlt:k<30
  · have hc:=HC.out k hlt;obtain⟨x,hx⟩:∃x,ZbU.getD k 0=x:=⟨_,rfl⟩
    rw [hx] at hc;by_cases he:x=part
    · subst he;have hr:=Zqm hlt hno hx;have HR:=Lib.hid hr;clear hr hx hno;go_wp2
      go_ret
      refine⟨?_,HB.out⟩;rw [HR.out];rfl
    · have he2:(x==part)=false:=by simpa using he
      have HN:=Lib.hid hno;have HX:=Lib.hid hx;clear hno hx;go_wp2
      go_roundw
      case rel=>exact⟨k+1,by omega,by go_num,fun j hj=>by
       by_cases hjk:j<k
       · exact HN.out j hjk
       · obtain rfl:j=k:=by omega
         rw [HX.out];exact he,rfl⟩
      case measure=>simp [intOf];omega
  · obtain rfl:k=30:=by omega
    have hr:=Zqo hno;have HR:=Lib.hid hr;clear hr hno;go_wp2
    go_ret
    refine⟨?_,HB.out⟩;rw [HR.out];rfl
theorem Zph (n:Nat)(hn:n<65536)(w:World):Calls Tryz.prog 52 #[.int .i64 (n:Nat)] w fun e w'=>e= .returned (.int .i32 (ZZ n))∧Below w.heap.size w w':=by
 by_cases h8:n<32768
 · have hz:ZZ n=0:=by unfold ZZ;rw [if_pos (.inl (by omega))]
   rw [hz];clear hz hn;have hd:decide ((n:Int)<32768)=true:=decide_eq_true (by omega);clear h8;go_enter Tryz.func52,Tryz.ntmps52
   go_wp2
   go_ret
   exact⟨rfl,Below.refl _ _⟩
 · have hmd:∀w,Calls Tryz.prog 110 #[.int .i64 ((n:Int) / 32 % 32)] w fun e w'=>e= .returned (.int .i64 (Zat ((n:Int) / 32 % 32)))∧Below w.heap.size w w':=fun w=>Zpc (n / 32 % 32) (by omega) w;have hfi:∀w,Calls Tryz.prog 111 #[.int .i64 ((n:Int) % 32)] w fun e w'=>e= .returned (.int .i64 (Zac ((n:Int) % 32)))∧w=w':=fun w=>Zo6 (n % 32) (by omega) w;have hal:=fun p w=>ZoX p w;have hd:decide ((n:Int)<32768)=false:=decide_eq_false (by omega);have hm0:=ZhT ((n:Int) / 32 % 32);have hf0:=Zhm ((n:Int) % 32);have hc0:0≤(n:Int) / 1024 % 32:=by omega
   have hc2:(n:Int) / 1024 % 32<32:=by omega
   unfold ZZ;have e:¬(n:Int)<32768:=by omega
   simp only [e,false_or];clear e h8;generalize hcc:(n:Int) / 1024 % 32=c at*;generalize Zat ((n:Int) / 32 % 32)=m at*;generalize Zac ((n:Int) % 32)=f at*;obtain⟨m1,m2⟩:=hm0;have hi2:Zas c= -2↔c=0∨20<c:=by
    unfold Zas
    (repeat' split)<;>omega
   have hi1:1≤c→c≤20→Zas c=c - 2:=fun h1 h2=>by
    unfold Zas
    (repeat' split)<;>omega
   obtain⟨R,hR⟩:∃R,(if Zas c= -2∨m= -2∨f= -2 then 0 else Zaw (Zas c) m f)=R:=⟨_,rfl⟩
   rw [hR];go_enter Tryz.func52,Tryz.ntmps52
   go_upto_region 6 with(first
    |(go_at_call 110;refine(hmd _).mono ?_;clear hmd;rintro e w1 ⟨rfl,hb1⟩)
    |(go_at_call 111;refine(hfi _).mono ?_;clear hfi;rintro e w2 ⟨rfl,rfl⟩))
   have HB:=Lib.hid hb1;clear hb1 hd hcc hn;by_cases k1:c=0
   · rw [if_pos (.inl (hi2.2 (.inl k1)))] at hR;have HR:=Lib.hid hR;clear hi1 hi2 hal hR;subst k1;go_wp2
     go_ret
     exact⟨congrArg (fun x=>Ending.returned (.int .i32 x)) HR.out,HB.out⟩
   by_cases k2:20<c
   · rw [if_pos (.inl (hi2.2 (.inr k2)))] at hR;have HR:=Lib.hid hR;clear hi1 hi2 hal hR;go_wp2
     go_ret
     exact⟨congrArg (fun x=>Ending.returned (.int .i32 x)) HR.out,HB.out⟩
   by_cases k3:m= -2
   · rw [if_pos (.inr (.inl k3))] at hR;have HR:=Lib.hid hR;clear hi1 hi2 hal hR;subst k3;go_wp2
     go_ret
     exact⟨congrArg (fun x=>Ending.returned (.int .i32 x)) HR.out,HB.out⟩
   by_cases k4:f= -2
   · rw [if_pos (.inr (.inr k4))] at hR;have HR:=Lib.hid hR;clear hi1 hi2 hal hR;subst k4;have k3:(m== -2)=false:=by simpa using k3
     go_wp2
     go_ret
     exact⟨congrArg (fun x=>Ending.returned (.int .i32 x)) HR.out,HB.out⟩
   have hi:=hi1 (by omega) (by omega);have hn2:¬(Zas c= -2∨m= -2∨f= -2):=by rw [hi];omega
   rw [if_neg hn2,hi] at hR;clear hn2 hi hi1 hi2;have k3:(m== -2)=false:=by simpa using k3
   have k4:(f== -2)=false:=by simpa using k4
   have hf1:0≤f:=by
    rcases hf0 with h|h
    · subst h;exact absurd k4 (by decide)
    · exact h.1
   have hf2:f≤27:=by omega
   have hm1: -1≤m:=by
    have:m≠ -2:=by simpa using k3
    omega
   clear hf0;by_cases a1:2≤c∧0≤m
   · have e:Zaw (c - 2) m f=44032+((c - 2)*21+m)*28+f:=by unfold Zaw Zec;rw [if_pos (by omega)]
     rw [e] at hR;have HR:=Lib.hid hR;clear hR;clear e hal;obtain⟨a1,a2⟩:=a1;have ew:IntKind.i32.wrap (44032+((c - 2)*21+m)*28+f)=44032+((c - 2)*21+m)*28+f:=by rw [IntKind.wrap_i32];omega
     go_wp2
     go_ret
     exact⟨congrArg (fun x=>Ending.returned (.int .i32 x)) HR.out,HB.out⟩
   by_cases a2:2≤c∧f=0
   · have e:Zaw (c - 2) m f=Zab (65+(c - 2).toNat):=by unfold Zaw;rw [if_neg (by omega),if_neg (by omega),if_pos (by omega)]
     rw [e] at hR;have ea:=Zqn (i:=(c - 2).toNat) (by omega);rw [show(((c - 2).toNat:Nat):Int)=c - 2 by omega] at ea;rw [←ea] at hR;have HR:=Lib.hid hR;clear hR;obtain⟨a3,rfl⟩:=a2;have a4:m<0:=by omega
     clear e ea a1;have hal:=hal (c - 2);go_wp2_with (go_at_call 112;refine(hal _).mono ?_;rintro e w3 ⟨rfl,hb3⟩)
     go_ret
     exact⟨congrArg (fun x=>Ending.returned (.int .i32 x)) HR.out,HB.out.trans (hb3.mono HB.out.size)⟩
   by_cases a5:2≤c
   · have e:Zaw (c - 2) m f=0:=by unfold Zaw;rw [if_neg (by omega),if_neg (by omega),if_neg (by omega),if_neg (by omega)]
     rw [e] at hR;have HR:=Lib.hid hR;clear hR;have a6:m<0:=by omega
     have a7:0<f:=by omega
     clear e hal a1 a2;go_wp2
     go_ret
     exact⟨congrArg (fun x=>Ending.returned (.int .i32 x)) HR.out,HB.out⟩
   obtain rfl:c=1:=by omega
   clear k1 k2 hc0 hc2 a1 a2 a5;by_cases b1:0≤m∧f=0
   · have e:Zaw (1 - 2) m f=12623+m:=by unfold Zaw;rw [if_neg (by omega),if_pos (by omega)]
     rw [e] at hR;have HR:=Lib.hid hR;clear hR;clear e hal;obtain⟨b1,rfl⟩:=b1;go_wp2
     go_ret
     exact⟨congrArg (fun x=>Ending.returned (.int .i32 x)) HR.out,HB.out⟩
   by_cases b2:0≤m
   · have e:Zaw (1 - 2) m f=0:=by unfold Zaw;rw [if_neg (by omega),if_neg (by omega),if_neg (by omega),if_neg (by omega)]
     rw [e] at hR;have HR:=Lib.hid hR;clear hR;have b3:0<f:=by omega
     have b4:(f==0)=false:=by rw [beq_eq_false_iff_ne];omega
     clear e hal b1;go_wp2
     go_ret
     exact⟨congrArg (fun x=>Ending.returned (.int .i32 x)) HR.out,HB.out⟩
   by_cases b5:0<f
   · have e:Zaw (1 - 2) m f=Zab (97+f.toNat):=by unfold Zaw;rw [if_neg (by omega),if_neg (by omega),if_neg (by omega),if_pos (by omega)]
     rw [e] at hR;have ea:=Zql (f:=f.toNat) (by omega) (by omega);rw [show((100+f.toNat:Nat):Int)=100+f by omega] at ea;rw [←ea] at hR;have HR:=Lib.hid hR;clear hR;have b6:m<0:=by omega
     clear e ea b1 b2;have hal:=hal (100+f);go_wp2_with (go_at_call 112;refine(hal _).mono ?_;rintro e w3 ⟨rfl,hb3⟩)
     go_ret
     exact⟨congrArg (fun x=>Ending.returned (.int .i32 x)) HR.out,HB.out.trans (hb3.mono HB.out.size)⟩
   · have e:Zaw (1 - 2) m f=0:=by unfold Zaw;rw [if_neg (by omega),if_neg (by omega),if_neg (by omega),if_neg (by omega)]
     rw [e] at hR;have HR:=Lib.hid hR;clear hR;obtain rfl:f=0:=by omega
     have b6:m<0:=by omega
     clear e hal b1 b2 b5;go_wp2
     go_ret
     exact⟨congrArg (fun x=>Ending.returned (.int .i32 x)) HR.out,HB.out⟩
def ZjH (p:Int)(w0:World)(c:Value)(wr:World):Prop:=∃n:Nat,32768≤n∧n≤65536∧c= .int .i64 n∧(∀m:Nat,32768≤m→m<n→ZZ m≠p)∧Below w0.heap.size w0 wr
def Rc06 (p c:Int):Prop:=c= -1∨∃n:Nat,c=n∧32768≤n∧n<65536∧ZZ n=p
theorem Zo0 (p:Int)(w:World):Calls Tryz.prog 27 #[.int .i32 p] w fun e w'=>∃c,e= .returned (.int .i64 c)∧Rc06 p c∧Below w.heap.size w w':=by
 have HP:Hid (∀c w',Rc06 p c→Below w.heap.size w w'→(fun(e:Ending) (w':World)=>∃c,e= .returned (.int .i64 c)∧Rc06 p c∧Below w.heap.size w w') (.returned (.int .i64 c)) w'):=Lib.hid fun c w' h1 h2=>⟨c,rfl,h1,h2⟩
 generalize (fun(e:Ending) (w':World)=>∃c,e= .returned (.int .i64 c)∧Rc06 p c∧Below w.heap.size w w')=P at*;by_cases hp:p<12593∨55203<p∨(12643<p∧p<44032)
 · rcases hp with hp|hp|⟨hp,hq⟩
   · go_enter Tryz.func27,Tryz.ntmps27
     go_wp2
     exact HP.out _ _ (.inl rfl) (Below.refl _ _)
   · have h2:¬p<12593:=by omega
     go_enter Tryz.func27,Tryz.ntmps27
     go_wp2
     exact HP.out _ _ (.inl rfl) (Below.refl _ _)
   · have h2:¬p<12593:=by omega
     have h3:¬55203<p:=by omega
     go_enter Tryz.func27,Tryz.ntmps27
     go_wp2
     exact HP.out _ _ (.inl rfl) (Below.refl _ _)
 · have h1:¬p<12593:=by omega
   have h2:¬55203<p:=by omega
   have hsg:=fun(n:Nat) (hn:n<65536) w=>Zph n hn w;by_cases hq:12643<p
   · have h3:¬p<44032:=by omega
     clear hp;go_enter Tryz.func27,Tryz.ntmps27
     go_wp2
     go_loopw [3] (fun c wr=>ZjH p w c wr) (fun c _=>65536 - (intOf c).toNat)
     case atStart=>exact⟨32768,by omega,by omega,rfl,fun m h1 h2=>absurd h1 (by omega),Below.refl _ _⟩
     case round=>
      obtain⟨n,hn1,hn2,rfl,hno,hb⟩:=hrel;have HN:=Lib.hid hno;clear hno;by_cases hlt:n<65536
      · have hs:=fun w=>hsg n hlt w;obtain⟨x,hx⟩:∃x,ZZ n=x:=⟨_,rfl⟩
        rw [hx] at hs;have HX:=Lib.hid hx;clear hx;have hd:decide ((n:Int)<65536)=true:=decide_eq_true (by omega);have hn9:(n:Int)≤70000:=by omega
        have HA:=Lib.hid hn1;have HL:=Lib.hid hlt;clear hn1 hn2 hlt;by_cases he:x=p
        · subst he;go_wp2_with (go_at_call 52;refine(hs _).mono ?_;rintro e w3 ⟨rfl,hb3⟩)
          exact HP.out _ _ (.inr ⟨n,rfl,HA.out,HL.out,HX.out⟩) (hb.trans (hb3.mono hb.size))
        · have he2:(x==p)=false:=by simpa using he
          go_wp2_with (go_at_call 52;refine(hs _).mono ?_;rintro e w3 ⟨rfl,hb3⟩)
          go_roundw
          case rel=>exact⟨n+1,by have:=HA.out;omega,by have:=HL.out;omega,by go_num,fun m h1 h2=>by
           by_cases hm:m<n
           · exact HN.out m h1 hm
           · obtain rfl:m=n:=by omega
             rw [HX.out];exact he,hb.trans (hb3.mono hb.size)⟩
          case measure=>have:=HL.out;simp [intOf];omega
      · obtain rfl:n=65536:=by omega
        go_wp2
        exact HP.out _ _ (.inl rfl) hb
   · clear hp;go_enter Tryz.func27,Tryz.ntmps27
     go_wp2
     go_loopw [3] (fun c wr=>ZjH p w c wr) (fun c _=>65536 - (intOf c).toNat)
     case atStart=>exact⟨32768,by omega,by omega,rfl,fun m h1 h2=>absurd h1 (by omega),Below.refl _ _⟩
     case round=>
      obtain⟨n,hn1,hn2,rfl,hno,hb⟩:=hrel;have HN:=Lib.hid hno;clear hno;by_cases hlt:n<65536
      · have hs:=fun w=>hsg n hlt w;obtain⟨x,hx⟩:∃x,ZZ n=x:=⟨_,rfl⟩
        rw [hx] at hs;have HX:=Lib.hid hx;clear hx;have hd:decide ((n:Int)<65536)=true:=decide_eq_true (by omega);have hn9:(n:Int)≤70000:=by omega
        have HA:=Lib.hid hn1;have HL:=Lib.hid hlt;clear hn1 hn2 hlt;by_cases he:x=p
        · subst he;go_wp2_with (go_at_call 52;refine(hs _).mono ?_;rintro e w3 ⟨rfl,hb3⟩)
          exact HP.out _ _ (.inr ⟨n,rfl,HA.out,HL.out,HX.out⟩) (hb.trans (hb3.mono hb.size))
        · have he2:(x==p)=false:=by simpa using he
          go_wp2_with (go_at_call 52;refine(hs _).mono ?_;rintro e w3 ⟨rfl,hb3⟩)
          go_roundw
          case rel=>exact⟨n+1,by have:=HA.out;omega,by have:=HL.out;omega,by go_num,fun m h1 h2=>by
           by_cases hm:m<n
           · exact HN.out m h1 hm
           · obtain rfl:m=n:=by omega
             rw [HX.out];exact he,hb.trans (hb3.mono hb.size)⟩
          case measure=>have:=HL.out;simp [intOf];omega
      · obtain rfl:n=65536:=by omega
        go_wp2
        exact HP.out _ _ (.inl rfl) hb
theorem Zc6 {a b:Int} (ha:0≤a∧a<256)(hb:0≤b∧b<256):strOfNums [a,b]=B (ZF (a*256+b).toNat):=by
 have e1:(a*256+b).toNat / 256=a.toNat:=by omega
 have e2:(a*256+b).toNat % 256=b.toNat:=by omega
 unfold ZF;rw [e1,e2];rfl
theorem ZgF (z:Int)(hz:z<0)(w:World):Calls Tryz.prog 26 #[.int .i64 z] w fun e w'=>e= .returned (.string ⟨#[]⟩)∧w=w':=by
 go_enter Tryz.func26,Tryz.ntmps26
 go_wp2
 go_ret
 exact⟨rfl,rfl⟩
theorem ZgG (n:Nat)(hn:n<65536)(w:World):Calls Tryz.prog 26 #[.int .i64 (n:Nat)] w fun e w'=>e= .returned (.string (B (ZF n)))∧Below w.heap.size w w':=by
 have hcv:=ZcA (P:=Tryz.prog) 79 9 5 Tryz.underlying79 Tryz.underlying5 Tryz.underlying9 w ((n:Int) / 256) ((n:Int) % 256) 2;rw [Zc6 (by omega) (by omega),show((n:Int) / 256*256+(n:Int) % 256).toNat=n by omega] at hcv;go_enter Tryz.func26,Tryz.ntmps26
 go_wp2
 go_ret
 exact⟨rfl,(Below.refl _ w).alloc (Nat.le_refl _) _⟩
theorem Zpk (n:Nat)(hn:n<11172)(w:World):Calls Tryz.prog 28 #[.int .i32 (44032+n:Int)] w fun e w'=>e= .returned (.string (B (ZF (ZaA (44032+n)).toNat)))∧Below w.heap.size w w':=by
 have e0:44032+(n:Int) - 44032=n:=by omega
 have hrk:∀w,Calls Tryz.prog 53 #[.int .i64 (44032+(n:Int) - 44032)] w fun e w'=>e= .returned (.int .i64 (cnt (Zn n) n))∧Below w.heap.size w w':=fun w=>by rw [e0];exact Zpf n hn w
 have hin:∀w,Calls Tryz.prog 54 #[.int .i64 (44032+(n:Int) - 44032)] w fun e w'=>e= .returned (.bool (Zn n))∧Below w.heap.size w w':=fun w=>by rw [e0];exact Zgv n hn w
 clear e0;have hlt:=fun(b:Bool) (h:Zn n=b)=>Zcb hn h;have hce:=fun h=>@Zg3 n hn h;have hci:=fun h=>@Zg4 n hn h;cases hi:Zn n with
 |true=>
  have hk:=hlt true hi;rw [Zeq] at hk;have hc:=hci hi;rw [hi] at hrk hin;generalize cnt true n=k at*;obtain⟨C,hC⟩:∃C,ZaA (44032+n)=C:=⟨_,rfl⟩
  rw [hC] at hc⊢;unfold inC at hc;have HE:=Lib.hid (show(176+(k:Int) / 94)*256+(161+(k:Int) % 94)=C by omega);have hcv:=fun w=>ZcA (P:=Tryz.prog) 79 9 5 Tryz.underlying79 Tryz.underlying5 Tryz.underlying9 w (176+(k:Int) / 94) (161+(k:Int) % 94) 2;rw [Zc6 (by omega) (by omega)] at hcv;clear hlt hce hci hi hc hC;go_enter Tryz.func28,Tryz.ntmps28
  go_upto_region 4 with(first
   |(go_at_call 53;refine(hrk _).mono ?_;clear hrk;rintro e w1 ⟨rfl,hb1⟩)
   |(go_at_call 54;refine(hin _).mono ?_;clear hin;rintro e w2 ⟨rfl,hb2⟩;have HB:=Lib.hid (hb1.trans (hb2.mono hb1.size));clear hb1 hb2))
  have hcv:=hcv w2;go_wp2
  go_ret
  refine⟨?_,HB.out.alloc HB.out.size _⟩;exact congrArg (fun c:Int=>Ending.returned (.string (B (ZF c.toNat)))) HE.out
 |false=>
  have hk:=hlt false hi;rw [Zer] at hk;have hc:=hce hi;rw [hi] at hrk hin;generalize cnt false n=k at*;obtain⟨C,hC⟩:∃C,ZaA (44032+n)=C:=⟨_,rfl⟩
  rw [hC] at hc⊢;unfold exC Zca at hc;clear hlt hce hci hi hC;go_enter Tryz.func28,Tryz.ntmps28
  go_upto_region 7 with(first
   |(go_at_call 53;refine(hrk _).mono ?_;clear hrk;rintro e w1 ⟨rfl,hb1⟩)
   |(go_at_call 54;refine(hin _).mono ?_;clear hin;rintro e w2 ⟨rfl,hb2⟩;have HB:=Lib.hid (hb1.trans (hb2.mono hb1.size));clear hb1 hb2))
  by_cases h5:(k:Int)<5696
  · rw [if_pos h5] at hc;have hL:0≤129+(k:Int) / 178∧129+(k:Int) / 178<256:=by omega
    have hT:0≤(k:Int) % 178∧(k:Int) % 178<178:=by omega
    go_upto_region 10 with fail
    generalize 129+(k:Int) / 178=L at*;generalize (k:Int) % 178=T at*;by_cases t26:T<26
    · rw [if_pos t26] at hc;have HE:=Lib.hid hc.symm;have hcv:=ZcA (P:=Tryz.prog) 79 9 5 Tryz.underlying79 Tryz.underlying5 Tryz.underlying9 w2 (L) (65+T) 2;rw [Zc6 (by omega) (by omega)] at hcv;clear hc;go_wp2
      go_ret
      refine⟨?_,HB.out.alloc HB.out.size _⟩;exact congrArg (fun c:Int=>Ending.returned (.string (B (ZF c.toNat)))) HE.out
    by_cases t52:T<52
    · rw [if_neg t26,if_pos t52] at hc;have HE:=Lib.hid hc.symm;have hcv:=ZcA (P:=Tryz.prog) 79 9 5 Tryz.underlying79 Tryz.underlying5 Tryz.underlying9 w2 (L) (97+T - 26) 2;rw [Zc6 (by omega) (by omega)] at hcv;clear hc;go_wp2
      go_ret
      refine⟨?_,HB.out.alloc HB.out.size _⟩;exact congrArg (fun c:Int=>Ending.returned (.string (B (ZF c.toNat)))) HE.out
    · rw [if_neg t26,if_neg t52] at hc;have HE:=Lib.hid hc.symm;have hcv:=ZcA (P:=Tryz.prog) 79 9 5 Tryz.underlying79 Tryz.underlying5 Tryz.underlying9 w2 (L) (129+T - 52) 2;rw [Zc6 (by omega) (by omega)] at hcv;clear hc;go_wp2
      go_ret
      refine⟨?_,HB.out.alloc HB.out.size _⟩;exact congrArg (fun c:Int=>Ending.returned (.string (B (ZF c.toNat)))) HE.out
  · rw [if_neg h5] at hc;have hk5:0≤(k:Int) - 5696:=by omega
    have hL:0≤161+((k:Int) - 5696) / 84∧161+((k:Int) - 5696) / 84<256:=by omega
    have hT:0≤((k:Int) - 5696) % 84∧((k:Int) - 5696) % 84<178:=by omega
    go_upto_region 10 with fail
    generalize 161+((k:Int) - 5696) / 84=L at*;generalize ((k:Int) - 5696) % 84=T at*;by_cases t26:T<26
    · rw [if_pos t26] at hc;have HE:=Lib.hid hc.symm;have hcv:=ZcA (P:=Tryz.prog) 79 9 5 Tryz.underlying79 Tryz.underlying5 Tryz.underlying9 w2 (L) (65+T) 2;rw [Zc6 (by omega) (by omega)] at hcv;clear hc;go_wp2
      go_ret
      refine⟨?_,HB.out.alloc HB.out.size _⟩;exact congrArg (fun c:Int=>Ending.returned (.string (B (ZF c.toNat)))) HE.out
    by_cases t52:T<52
    · rw [if_neg t26,if_pos t52] at hc;have HE:=Lib.hid hc.symm;have hcv:=ZcA (P:=Tryz.prog) 79 9 5 Tryz.underlying79 Tryz.underlying5 Tryz.underlying9 w2 (L) (97+T - 26) 2;rw [Zc6 (by omega) (by omega)] at hcv;clear hc;go_wp2
      go_ret
      refine⟨?_,HB.out.alloc HB.out.size _⟩;exact congrArg (fun c:Int=>Ending.returned (.string (B (ZF c.toNat)))) HE.out
    · rw [if_neg t26,if_neg t52] at hc;have HE:=Lib.hid hc.symm;have hcv:=ZcA (P:=Tryz.prog) 79 9 5 Tryz.underlying79 Tryz.underlying5 Tryz.underlying9 w2 (L) (129+T - 52) 2;rw [Zc6 (by omega) (by omega)] at hcv;clear hc;go_wp2
      go_ret
      refine⟨?_,HB.out.alloc HB.out.size _⟩;exact congrArg (fun c:Int=>Ending.returned (.string (B (ZF c.toNat)))) HE.out
theorem Zrs {l:List (Int×Int×List Int)} {p:Int} (h:0≤Zbc l p):∃t∈l,p∈t.2.2:=by
 apply Classical.byContradiction
 intro hn;rw [ZkP fun t ht hm=>hn ⟨t,ht,hm⟩] at h;omega
theorem ZsE:SP.all (fun t=>t.2.2.all fun p=>decide (ZM (ZY p / 256) (ZY p % 256)=p∧32768≤ZY p∧ZY p<65536∧p≠0))=true:=by decide+kernel
theorem Zru {p:Int} (h:0≤ZY p):ZM (ZY p / 256) (ZY p % 256)=p∧32768≤ZY p∧ZY p<65536∧p≠0:=by
 have h2:0≤Zbc SP p:=by
  unfold ZY at h;split at h
  · omega
  · exact h
 obtain⟨t,ht,hp⟩:=Zrs h2;have:=List.all_eq_true.1 (List.all_eq_true.1 ZsE t ht) p hp;simpa using this
theorem ZuA {l:List Int} (h:0≤ZaH TW l):∃n:Nat,136*256+ZaH TW l=n∧32768≤n∧n<65536∧2≤l.length∧Z5 ((n / 256:Nat):Int) ((n % 256:Nat):Int)=l.take 2:=by
 by_cases hl:1<l.length
 · match l,hl with
   |x::y::r,_=>
    rw [ZiC _ (by simp)] at h⊢;simp only [List.getD_cons_zero,List.getD_cons_succ,List.take_succ_cons,List.take_zero] at h⊢;have k1:Z5 136 98=[202,772]∧Z5 136 100=[202,780]∧Z5 136 163=[234,772]∧Z5 136 165=[234,780]:=by decide+kernel
    by_cases a1:x=202∧y=772
    · rw [if_pos a1];exact⟨34914,rfl,by omega,by omega,by simp,by rw [a1.1,a1.2];exact k1.1⟩
    rw [if_neg a1] at h⊢;by_cases a2:x=202∧y=780
    · rw [if_pos a2];exact⟨34916,rfl,by omega,by omega,by simp,by rw [a2.1,a2.2];exact k1.2.1⟩
    rw [if_neg a2] at h⊢;by_cases a3:x=234∧y=772
    · rw [if_pos a3];exact⟨34979,rfl,by omega,by omega,by simp,by rw [a3.1,a3.2];exact k1.2.2.1⟩
    rw [if_neg a3] at h⊢;by_cases a4:x=234∧y=780
    · rw [if_pos a4];exact⟨34981,rfl,by omega,by omega,by simp,by rw [a4.1,a4.2];exact k1.2.2.2⟩
    rw [if_neg a4] at h;omega
 · exfalso
   simp only [ZaH,TW,hl,false_and,if_false] at h;omega
theorem ZqQ (l:List Int):ZaJ l=(-1,0)∨∃n m:Nat,ZaJ l=((n:Int),(m:Int))∧32768≤n∧n<65536∧1≤m∧m≤2∧m≤l.length∧Chunk 6 (ZF n) (l.take m):=by
 unfold ZaJ;by_cases h0:l=[]
 · rw [if_pos h0];exact .inl rfl
 rw [if_neg h0];by_cases h1:0≤ZaH TW l
 · rw [if_pos h1];obtain⟨n,e,a,b,c,d⟩:=ZuA h1;refine .inr ⟨n,2,by rw [e];rfl,a,b,by omega,by omega,c,Zkg b a d ?_⟩;intro e0;have:=congrArg List.length e0;rw [List.length_take] at this;simp only [List.length_nil] at this;omega
 rw [if_neg h1];by_cases h2:0≤ZY (l.getD 0 0)
 · rw [if_pos h2];obtain⟨a,b,c,d⟩:=Zru h2
   match l,h0 with
   |x::r,_=>
    simp only [List.getD_cons_zero] at a b c d h2⊢;obtain⟨n,hn⟩:∃n:Nat,ZY x=n:=⟨(ZY x).toNat,by omega⟩
    rw [hn] at a b c⊢;refine .inr ⟨n,1,rfl,by omega,by omega,by omega,by omega,by simp,?_⟩;have e:Z5 ((n / 256:Nat):Int) ((n % 256:Nat):Int)=[x]:=by
     have a':ZM ((n / 256:Nat):Int) ((n % 256:Nat):Int)=x:=a;unfold Z5;rw [a',if_pos d]
    exact Zkg (by omega) (by omega) e (by simp)
 · rw [if_neg h2];exact .inl rfl
theorem ZqJ {n:Nat} (hn:n<11172):Chunk 4 (ZF (ZaA (44032+n)).toNat) [(44032+n:Int)]:=by
 obtain⟨q,hq⟩:=Ziq (ZaA (44032+n) / 256) (ZaA (44032+n) % 256);have e:=ZqR hn hq;subst e;obtain⟨a,b⟩:=ZqS hn;obtain⟨c,hc⟩:∃c:Nat,ZaA (44032+n)=c:=⟨(ZaA (44032+n)).toNat,by omega⟩
 rw [hc] at hq a b⊢;rw [Int.toNat_natCast];have h8:32768≤c:=by
  apply Classical.byContradiction
  intro hx;unfold Z2 at hq;have:(c:Int) / 256<129:=by omega
  rw [if_pos (.inr (.inl this))] at hq;omega
 exact Zkk (by omega) h8 hq (by omega) (by rw [Z1];omega)
theorem Zkj {p c:Int} (h:RcIs p c)(hp:Ze p=true)(h0:0<p):c= -1∨∃n:Nat,c=n∧32768≤n∧n<65536∧Chunk 4 (ZF n) [p]:=by
 rcases h with⟨l,b,h1,h2,h3,h4,h5,rfl⟩|⟨rfl,_⟩
 · right
   rw [Ztk l b ⟨h1,by omega⟩ ⟨h3,h4⟩] at h5;have hs:Z2 l b p:=by
    unfold Z2;have hz:¬(ZW b<0∨l<129∨254<l):=by
     have:ZW b=b - 129+52:=by unfold ZW;(repeat' split)<;>omega
     omega
    rw [if_neg hz,if_neg (by omega),if_neg (by omega)];unfold Za9;rw [if_neg (by omega),if_neg (by omega)];exact h5.symm
   obtain⟨n,hn⟩:∃n:Nat,l*256+b=n:=⟨(l*256+b).toNat,by omega⟩
   have e1:((n / 256:Nat):Int)=l:=by omega
   have e2:((n % 256:Nat):Int)=b:=by omega
   exact⟨n,hn,by omega,by omega,Zkk (by omega) (by omega) (by rw [e1,e2];exact hs) (by omega) hp⟩
 · exact .inl rfl
end Go.Proofs.YtlfinljfghhpdaaGreatDoor
