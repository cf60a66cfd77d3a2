/- Lemmas for a statement on the tops; conditions: as each says. -/
import Derived.Maps.OwnOps
import Derived.Maps.OwnSet
import Derived.Maps.Views
import Derived.Test.YtlfinljfghhpdaaGreatDoorM25
set_option linter.unusedVariables false
set_option linter.unusedSimpArgs false
set_option maxRecDepth 100000
set_option maxHeartbeats 4000000
namespace Go.Proofs.YtlfinljfghhpdaaGreatDoor
open Go Go.RowKit
structure Two (K:Nat)(w w':World):Prop where
 os:w'.os=w.os
 tape:w'.tape=w.tape
 output:w'.output=w.output
 size:w.heap.size≤w'.heap.size
 block:∀k,k<w.heap.size→k≠K→k≠K+1→w'.heap[k]? =w.heap[k]?
theorem Two.of {K:Nat} {w w':World} (h:Below w.heap.size w w'):Two K w w':=⟨h.os,h.tape,h.output,h.size,fun k hk _ _=>h.block k hk⟩
theorem Two.trans {K:Nat} {a b c:World} (h:Two K a b)(g:Two K b c):Two K a c:=
 ⟨g.os.trans h.os,g.tape.trans h.tape,g.output.trans h.output,Nat.le_trans h.size g.size,fun k hk h1 h2=>(g.block k (Nat.lt_of_lt_of_le hk h.size) h1 h2).trans (h.block k hk h1 h2)⟩
theorem Two.set {K j:Nat} {w:World} {p:Nat} (hp:p=K∨p=K+1)(v:Value):Two K w (w.setCell ⟨p,j,none⟩ v):=
 have h:=(Below.refl p w).setCell (p:=⟨p,j,none⟩) (Nat.le_refl p) v
 ⟨h.os,h.tape,h.output,h.size,fun k _ h1 h2=>heap_set (by rcases hp with rfl|rfl<;>assumption) v⟩
theorem Two.below {K B:Nat} {w w':World} (h:Two K w w')(hB:B≤K)(hs:B≤w.heap.size):Below B w w':=⟨h.os,h.tape,h.output,h.size,fun k hk=>h.block k (by omega) (by omega) (by omega)⟩
theorem Two.cell {K:Nat} {w w':World} (h:Two K w w'){p:Addr} (hp:p.block<w.heap.size)(h1:p.block≠K)(h2:p.block≠K+1):w'.cell? p=w.cell? p:=World.cell?_of_block (w:=w) (h.block p.block hp h1 h2)
def Zaa (K:Nat)(M:Nat→Option Int)(w:World):Prop:=∃kn sg:Array Value,w.heap[K]? =some (.cells kn 246 (0,0))∧w.heap[K+1]? =some (.cells sg 269 (0,0))∧kn.size=256∧sg.size=256∧
 (∀n,n<256→kn[n]? =some (.bool (M n).isSome))∧(∀n,n<256→∃v:Int,sg[n]? =some (.int .i32 v)∧∀p,M n=some p→v=p)
theorem Zaa.heap {K:Nat} {M:Nat→Option Int} {w w':World} (h:Zaa K M w)(h1:w'.heap[K]? =w.heap[K]?)(h2:w'.heap[K+1]? =w.heap[K+1]?):Zaa K M w':=by
 obtain⟨kn,sg,a,b,r⟩:=h;exact⟨kn,sg,h1.trans a,h2.trans b,r⟩
theorem Zaa.lt {K:Nat} {M:Nat→Option Int} {w:World} (h:Zaa K M w):K+1<w.heap.size:=by
 obtain⟨_,_,_,b,_⟩:=h;exact(Array.getElem?_eq_some_iff.1 b).1
theorem Zaa.below {K:Nat} {M:Nat→Option Int} {w w':World} (h:Zaa K M w)(hb:Below w.heap.size w w'):Zaa K M w':=by
 have:=h.lt;exact h.heap (hb.block _ (by omega)) (hb.block _ (by omega))
theorem Zaa.get {K:Nat} {M:Nat→Option Int} {w:World} (h:Zaa K M w){n:Nat} (hn:n<256):
 w.cell? ⟨K,n,none⟩=some (.bool (M n).isSome)∧w.frozen? ⟨K,n,none⟩=false∧w.frozen? ⟨K+1,n,none⟩=false∧∃v:Int,w.cell? ⟨K+1,n,none⟩=some (.int .i32 v)∧∀p,M n=some p→v=p:=by
 obtain⟨kn,sg,a,b,_,_,c,d⟩:=h;obtain⟨v,h1,h2⟩:=d n hn;exact⟨by rw [cell_of_row _ K n _ _ _ a];exact c n hn,frozen_of_row _ K n _ _ a,frozen_of_row _ (K+1) n _ _ b,v,by rw [cell_of_row _ (K+1) n _ _ _ b];exact h1,h2⟩
theorem Zaa.set {K:Nat} {M:Nat→Option Int} {w:World} (h:Zaa K M w){n:Nat} (_:n<256)(p:Int):
 Zaa K (fun m=>if n=m then some p else M m) ((w.setCell ⟨K,n,none⟩ (.bool true)).setCell ⟨K+1,n,none⟩ (.int .i32 p)):=by
 obtain⟨kn,sg,a,b,ka,kb,c,d⟩:=h;have a1:=heap_setCell_same w K n kn _ (.bool true) a;have b1:(w.setCell ⟨K,n,none⟩ (.bool true)).heap[K+1]? =some (.cells sg 269 (0,0)):=(heap_set (by omega) _).trans b;refine⟨kn.setIfInBounds n (.bool true),sg.setIfInBounds n (.int .i32 p),(heap_set (by omega) _).trans a1,heap_setCell_same _ (K+1) n sg _ _ b1,by simpa using ka,by simpa using kb,fun m hm=> ?_,fun m hm=> ?_⟩
 · show(kn.setIfInBounds n (.bool true))[m]? =some (.bool (if n=m then some p else M m).isSome)
   rw [Array.getElem?_setIfInBounds];by_cases e:n=m
   · subst e;simp [ka,hm]
   · rw [if_neg e,if_neg e];exact c m hm
 · rw [Array.getElem?_setIfInBounds];by_cases e:n=m
   · subst e;exact⟨p,by simp [kb,hm],fun q hq=>by simpa using hq⟩
   · obtain⟨v,h1,h2⟩:=d m hm;exact⟨v,by rw [if_neg e];exact h1,fun q hq=>h2 q (by simpa [e] using hq)⟩
theorem Zaa.congr {K:Nat} {M M':Nat→Option Int} {w:World} (h:Zaa K M w)(e:∀n,n<256→M n=M' n):Zaa K M' w:=by
 obtain⟨kn,sg,a,b,ka,kb,c,d⟩:=h;exact⟨kn,sg,a,b,ka,kb,fun n hn=>by rw [←e n hn];exact c n hn,fun n hn=>by rw [←e n hn];exact d n hn⟩
theorem Zaa.mk0 (w:World):Zaa w.heap.size (fun _=>none) ((w.alloc (.cells Tryz.zeroCells246 246)).alloc (.cells Tryz.zeroCells269 269)):=by
 have h1:=heap_alloc_new w (.cells Tryz.zeroCells246 246);have h2:=heap_alloc_new (w.alloc (.cells Tryz.zeroCells246 246)) (.cells Tryz.zeroCells269 269);rw [World.size_alloc] at h2;have e1:Tryz.zeroCells246=Array.replicate 256 (.bool false):=by kernel_rfl
 have e2:Tryz.zeroCells269=Array.replicate 256 (.int .i32 0):=by kernel_rfl
 refine⟨_,_,(Below.heap_alloc _ _ _ (by simp)).trans h1,h2,by rw [e1];simp,by rw [e2];simp,fun n hn=> ?_,fun n hn=>⟨0,?_,fun p hp=>by cases hp⟩⟩
 · rw [e1,Array.getElem?_replicate,if_pos hn];rfl
 · rw [e2,Array.getElem?_replicate,if_pos hn]
theorem Zaa.apart {K:Nat} {M:Nat→Option Int} {w:World} (h:Zaa K M w){a:Addr} {z:Int} (hc:w.cell? a=some (.int .i64 z)):a.block≠K∧a.block≠K+1:=by
 obtain⟨kn,sg,h1,h2,k1,k2,c,d⟩:=h;have hsp:a.spot=none:=World.cell?_spot hc;obtain⟨b,o,sp⟩:=a;simp only at hsp;subst hsp;constructor
 · rintro rfl;simp only at h1;rw [cell_of_row _ _ o _ _ _ h1] at hc;by_cases ho:o<256
   · rw [c o ho] at hc;cases hc
   · rw [Array.getElem?_eq_none (by omega)] at hc;cases hc
 · intro e;simp only at e;subst e;rw [cell_of_row _ _ o _ _ _ h2] at hc;by_cases ho:o<256
   · obtain⟨v,hv,_⟩:=d o ho;rw [hv] at hc;cases hc
   · rw [Array.getElem?_eq_none (by omega)] at hc;cases hc
def SdRel (L:List Pr)(K:Nat)(W1:World)(i:Value)(wr:World):Prop:=∃k:Nat,k≤L.length∧i= .int .i64 k∧Zaa K (Za0 (L.take k)) wr∧Two K W1 wr
def StRel (L:List Pr)(b:ByteArray)(base:Nat)(W1:World)(v i:Value)(wr:World):Prop:=∃(k:Nat) (ps:List Int),k≤b.size∧i= .int .i64 k∧(b.data.toList.take k).map (fun x=>Za0 L x.toNat)=ps.map some∧wr.ownsRow base 5 1 v (ZH ps).length ((ZH ps).map (Value.int .u8))∧Below W1.heap.size W1 wr
def DdRes (r:List Int⊕Nat):Value:=match r with
 | .inl ps=> .tuple #[.string (tB ps),.agg #[.int .i64 0,.int .i64 0]]
 | .inr j=> .tuple #[.string ⟨#[]⟩,.agg #[.int .i64 2,.int .i64 (j:Int)]]
def Ze1 (r:List Int⊕Nat)(w0:World)(e:Ending)(w':World):Prop:=e= .returned (DdRes r)∧Below w0.heap.size w0 w'
theorem ZlI:∀(L:List Pr) (o:Option Int) (n:Nat) (p:Int),L.foldl (fun o x=>if x.1=n then some x.2 else o) o=some p→o=some p∨∃x∈L,x.2=p
 |[],o,n,p,h=> .inl h
 |x::L,o,n,p,h=>by
  rcases ZlI L _ n p h with h1|⟨y,h1,h2⟩
  · have h1:(if x.1=n then some x.2 else o)=some p:=h1;by_cases e:x.1=n
    · rw [if_pos e] at h1;injection h1 with h1;exact .inr ⟨x,List.mem_cons_self ..,h1⟩
    · rw [if_neg e] at h1;exact .inl h1
  · exact .inr ⟨y,List.mem_cons_of_mem _ h1,h2⟩
theorem ls_rng {L:List Pr} (h:∀x∈L, -2147483648≤x.2∧x.2<2147483648){n:Nat} {p:Int} (hp:Za0 L n=some p): -2147483648≤p∧p<2147483648:=by
 rcases ZlI L none n p hp with h1|⟨x,h1,h2⟩
 · cases h1
 · subst h2;exact h x h1
theorem Zpw (A:Option Addr)(c:Nat)(q:Int)(rs:List (Rw×Sl))(b:ByteArray)(L:List Pr)(hL:Zq rs=L)(hLr:∀x∈L, -2147483648≤x.2∧x.2<2147483648)(hb:b.size≤100000)(hn:rs.length≤35184372089000)(w:World)(h:TbR w w.heap.size A rs)(hT:Zj w):
 Calls Tryz.prog 156 #[.agg #[.slice A rs.length c,.int .i64 q],.string b] w (Ze1 (dcF L b.data.toList 0) w):=by
 have HP:Hid (∀r w',dcF L b.data.toList 0=r→Below w.heap.size w w'→Ze1 (dcF L b.data.toList 0) w (.returned (DdRes r)) w'):=Lib.hid fun r w' h1 h2=>by rw [h1];exact⟨rfl,h2⟩
 generalize Ze1 (dcF L b.data.toList 0) w=P at*;have hpa:=fun w1 (hb:Below w.heap.size w w1)=>Zjz A c rs hn w1 ((h.below hb).more hb.size);rw [show(rs.map (·.1)).flatMap prs=L from hL] at hpa;unfold ZgD at hpa;have hln:=h.total;rw [←Zf9,show(rs.map (·.1)).flatMap prs=L from hL] at hln;have hbl:b.data.toList.length=b.size:=by simp
 obtain⟨W2,hW2⟩:∃W2,W2=(w.alloc (.cells #[.slice A rs.length c,.int .i64 q] 213)).alloc (.cells #[.int .i64 0,.int .i64 0] 33):=⟨_,rfl⟩
 have hz2:W2.heap.size=w.heap.size+2:=by rw [hW2];simp
 have hB2:Below w.heap.size w W2:=by rw [hW2];exact((Below.refl _ _).alloc (Nat.le_refl _) _).alloc (by simp) _
 have hA0:=Zaa.mk0 W2;rw [hz2] at hA0;have hB4:Below W2.heap.size W2 ((W2.alloc (.cells Tryz.zeroCells246 246)).alloc (.cells Tryz.zeroCells269 269)):=((Below.refl _ _).alloc (Nat.le_refl _) _).alloc (by simp) _;have hf0:W2.heap[w.heap.size+1]? =some (.cells #[.int .i64 0,.int .i64 0] 33 (0,0)):=by
  rw [hW2];have:=heap_alloc_new (w.alloc (.cells #[.slice A rs.length c,.int .i64 q] 213)) (.cells #[.int .i64 0,.int .i64 0] 33);simpa using this
 have HB4:=Lib.hid hB4;have HB2:=Lib.hid hB2;have HW2:=Lib.hid hW2;have HA0:=Lib.hid hA0;have HF0:=Lib.hid hf0;have Hz2:=Lib.hid hz2;have HPA:Hid (∀w1,Below w.heap.size w w1→Calls Tryz.prog 236 #[.agg #[.slice A rs.length c]] w1 fun e w'=>∃A c,e= .returned (.slice A L.length c)∧L.length≤c∧Reads w' w'.heap.size 2 A L.length (L.flatMap prV)∧Below w1.heap.size w1 w'):=Lib.hid hpa;clear hB4 hB2 hW2 hA0 hf0 hz2 hpa h hL;go_enter Tryz.func156,Tryz.ntmps156
 go_wp2_with fail
 rw [←HW2.out];refine(HPA.out _ (HB2.out.trans (HB4.out.mono HB2.out.size))).mono ?_;rintro e w1 ⟨A3,c3,rfl,hc3,hr3,hb3⟩;have HR3:Hid (PrsL w1 w1.heap.size A3 L):=Lib.hid hr3;have HB1:=Lib.hid (HB4.out.trans (hb3.mono HB4.out.size));have HA1:=Lib.hid (HA0.out.below hb3);have hz1:=HB1.out.size;rw [Hz2.out] at hz1;clear hr3 hb3;go_wp2_with fail
 go_loopw [16] (fun i wr=>SdRel L (w.heap.size+1+1) w1 i wr) (fun i _=>L.length - (intOf i).toNat)
 case atStart=>exact⟨0,by omega,rfl,HA1.out,Two.of (Below.refl _ _)⟩
 case round=>
  obtain⟨k,hk,rfl,harr,htw⟩:=hrel;have hKz:=harr.lt;have hzr:=htw.size;by_cases hlt:k<L.length
  · obtain⟨x,hx⟩:∃x,L[k]? =some x:=⟨_,List.getElem?_eq_getElem hlt⟩
    obtain⟨ad,rfl,hadb,y0,y1,_⟩:=HR3.out.pair hx;obtain⟨n1,n2⟩:=HA1.out.apart y0;rw [ZaE] at n1 n2;have z0:=(htw.cell (p:=ad.add (k*2)) (by rw [ZaE];exact hadb) (by rw [ZaE];exact n1) (by rw [ZaE];exact n2)).trans y0;have z1:=(htw.cell (p:=⟨(ad.add (k*2)).block,(ad.add (k*2)).off+1,none⟩) (by show(ad.add (k*2)).block<_;rw [ZaE];exact hadb) (by show(ad.add (k*2)).block≠_;rw [ZaE];exact n1) (by show(ad.add (k*2)).block≠_;rw [ZaE];exact n2)).trans y1;have hsn:L.take (k+1)=L.take k++[x]:=by rw [List.take_add_one,hx];rfl
    have Hsn:=Lib.hid hsn;have hxr:=hLr x (List.mem_of_getElem? hx);have hl:k<L.length:=hlt;have hB0:Below wr.heap.size wr (wr.alloc (.cells #[.int .i64 (x.1:Int),.int .i32 x.2] 273)):=(Below.refl _ _).alloc (Nat.le_refl _) _;clear hsn n1 n2 y0 y1;by_cases hc:x.1<256
    · have hc':(x.1:Int)<256:=by omega
      go_wp2_with fail
      have q0:(wr.alloc (.cells #[.int .i64 (x.1:Int),.int .i32 x.2] 273)).drew.cell? ⟨wr.heap.size,0,none⟩=some (.int .i64 (x.1:Int)):=by rw [World.cell?_drew,cell_of_row _ wr.heap.size 0 _ _ _ (heap_alloc_new wr _)];rfl
      have q1:(wr.alloc (.cells #[.int .i64 (x.1:Int),.int .i32 x.2] 273)).drew.cell? ⟨wr.heap.size,1,none⟩=some (.int .i32 x.2):=by rw [World.cell?_drew,cell_of_row _ wr.heap.size 1 _ _ _ (heap_alloc_new wr _)];rfl
      have ha0:Zaa (w.heap.size+1+1) (Za0 (L.take k)) (wr.alloc (.cells #[.int .i64 (x.1:Int),.int .i32 x.2] 273)).drew:=harr.below hB0.drew;have Ht0:=Lib.hid (htw.trans (Two.of hB0.drew));refine ZiV (fun W=>W.cell? ⟨wr.heap.size,0,none⟩=some (.int .i64 (x.1:Int))∧W.cell? ⟨wr.heap.size,1,none⟩=some (.int .i32 x.2)) [(0,true),(1,true),(2,true),(3,true),(4,true),(5,true),(6,true),(7,false),(8,true),(9,false)] (by kernel_rfl) (by kernel_rfl) (by kernel_rfl) (Nat.le_of_ble_eq_true rfl) (fun _ _ d _ _ h=>by cases d<;>exact h) ⟨q0,q1⟩ ?_;generalize (wr.alloc (.cells #[.int .i64 (x.1:Int),.int .i32 x.2] 273)).drew=W0 at*;obtain⟨e1,e2,e3,v,e4,_⟩:=ha0.get hc;have HAR:=Lib.hid (ha0.set hc x.2);clear ha0;have m1:(W0.setCell ⟨w.heap.size+1+1,x.1,none⟩ (.bool true)).cell? ⟨wr.heap.size,0,none⟩=some (.int .i64 (x.1:Int)):=(ZbJ (by show wr.heap.size≠_;omega) _).trans q0;have m2:(W0.setCell ⟨w.heap.size+1+1,x.1,none⟩ (.bool true)).cell? ⟨wr.heap.size,1,none⟩=some (.int .i32 x.2):=(ZbJ (by show wr.heap.size≠_;omega) _).trans q1;refine' Zb1 rfl (by rfl) _ (fun W hSw=>_) _
      rotate_left
      · obtain⟨s1,s2⟩:=hSw
        go_simp
        try with_reducible rfl
      try simp only [Act.put,List.setIfInBounds_toArray,List.set_cons_zero,List.set_cons_succ]
      refine' Zb1 rfl (by rfl) _ (fun W hSw=>_) _
      rotate_left
      · obtain⟨s1,s2⟩:=hSw
        go_simp
        try with_reducible rfl
      try simp only [Act.put,List.setIfInBounds_toArray,List.set_cons_zero,List.set_cons_succ]
      refine' Zb1 rfl (by rfl) _ (fun W hSw=>_) _
      rotate_left
      · obtain⟨s1,s2⟩:=hSw
        go_simp
        try with_reducible rfl
      try simp only [Act.put,List.setIfInBounds_toArray,List.set_cons_zero,List.set_cons_succ]
      refine' Zb1 rfl (by rfl) _ (fun W hSw=>_) _
      rotate_left
      · obtain⟨s1,s2⟩:=hSw
        go_simp
        try with_reducible rfl
      try simp only [Act.put,List.setIfInBounds_toArray,List.set_cons_zero,List.set_cons_succ]
      refine' Zb1 rfl (by rfl) _ (fun W hSw=>_) _
      rotate_left
      · obtain⟨s1,s2⟩:=hSw
        go_simp
        try with_reducible rfl
      try simp only [Act.put,List.setIfInBounds_toArray,List.set_cons_zero,List.set_cons_succ]
      refine' Zb1 rfl (by rfl) _ (fun W hSw=>_) _
      rotate_left
      · obtain⟨s1,s2⟩:=hSw
        go_simp
        try with_reducible rfl
      try simp only [Act.put,List.setIfInBounds_toArray,List.set_cons_zero,List.set_cons_succ]
      refine Zb1 rfl (by rfl) (.pointer (some ⟨w.heap.size+1+1,x.1,none⟩)) (fun W hSw=>by go_simp) ?_
      try simp only [Act.put,List.setIfInBounds_toArray,List.set_cons_zero,List.set_cons_succ]
      refine Zds rfl (by rfl) (fun K hK=> ?_)
      go_simp
      go_wp2_with fail
      have e5:(W0.setCell ⟨w.heap.size+1+1,x.1,none⟩ (.bool true)).cell? ⟨w.heap.size+1+1+1,x.1,none⟩=some (.int .i32 v):=(ZbJ (by show w.heap.size+1+1+1≠_;omega) _).trans e4;have e6:(W0.setCell ⟨w.heap.size+1+1,x.1,none⟩ (.bool true)).frozen? ⟨w.heap.size+1+1+1,x.1,none⟩=false:=by rw [World.frozen?_of_block (w:=W0) (heap_set (by show w.heap.size+1+1+1≠_;omega) _)];exact e3
      have hT1:=Two.set (K:=w.heap.size+1+1) (j:=x.1) (w:=W0) (p:=w.heap.size+1+1) (.inl rfl) (.bool true);have HTt:=Lib.hid (Ht0.out.trans (hT1.trans (Two.set (K:=w.heap.size+1+1) (j:=x.1) (p:=w.heap.size+1+1+1) (.inr rfl) (.int .i32 x.2))));refine hK.out _ _ ⟨m1,m2⟩ ?_;clear hK K hT1;generalize (W0.setCell ⟨w.heap.size+1+1,x.1,none⟩ (.bool true))=Wm at*
      try simp only [Act.put,List.setIfInBounds_toArray,List.set_cons_zero,List.set_cons_succ]
      refine Zb1 rfl (by rfl) (.pointer (some ⟨w.heap.size+1+1+1,x.1,none⟩)) (fun W hSw=>by go_simp) ?_
      try simp only [Act.put,List.setIfInBounds_toArray,List.set_cons_zero,List.set_cons_succ]
      refine Zds rfl (by rfl) (fun K hK=> ?_)
      go_simp
      go_wp2_with fail
      have m3:(Wm.setCell ⟨w.heap.size+1+1+1,x.1,none⟩ (.int .i32 x.2)).cell? ⟨wr.heap.size,0,none⟩=some (.int .i64 (x.1:Int)):=(ZbJ (by show wr.heap.size≠_;omega) _).trans m1;have m4:(Wm.setCell ⟨w.heap.size+1+1+1,x.1,none⟩ (.int .i32 x.2)).cell? ⟨wr.heap.size,1,none⟩=some (.int .i32 x.2):=(ZbJ (by show wr.heap.size≠_;omega) _).trans m2;refine hK.out _ _ ⟨m3,m4⟩ ?_;clear hK K
      try simp only [Act.put,List.setIfInBounds_toArray,List.set_cons_zero,List.set_cons_succ]
      refine ZhN ?_;go_wp2_with fail
      go_roundw
      case rel=>exact⟨k+1,by omega,by simp,HAR.out.congr (fun n _=>by rw [Hsn.out,ZhQ]),HTt.out⟩
      case measure=>simp [intOf];omega
    · have hc':¬((x.1:Int)<256):=by omega
      go_wp2_with fail
      go_roundw
      case rel=>exact⟨k+1,by omega,by simp,(harr.below hB0).congr (fun n hn=>by rw [Hsn.out,ZhQ,if_neg (by omega)]),htw.trans (Two.of hB0)⟩
      case measure=>simp [intOf];omega
  · obtain rfl:k=L.length:=by omega
    rw [List.take_length] at harr;have hkk:¬((L.length:Int)<L.length):=by omega
    have HBr:Hid (Below w.heap.size w wr):=Lib.hid ((HB2.out.trans (HB1.out.mono HB2.out.size)).trans (htw.below (by omega) (by have:=HB1.out.size;have:=HB2.out.size;omega)));have hfa:wr.heap[w.heap.size+1]? =some (.cells #[.int .i64 0,.int .i64 0] 33 (0,0)):=by
     rw [htw.block _ (by have:=HB1.out.size;omega) (by omega) (by omega),HB1.out.block _ (by rw [Hz2.out];omega)];exact HF0.out
    have hTr:Zj wr:=Zaz hT HBr.out (Nat.le_refl _);have HFA:=Lib.hid hfa;have HARR:=Lib.hid harr;have hrz:w.heap.size+3<wr.heap.size:=by have:=harr.lt;omega
    obtain⟨wo,rfl⟩:∃wo:World,wo=wr:=⟨_,rfl⟩
    clear htw hfa harr;go_wp2_with fail
    go_loopw [10,11] (fun v i wr=>StRel L b wo.heap.size wo v i wr) (fun _ i _=>b.size - (intOf i).toNat)
    case atStart=>exact⟨0,[],by omega,rfl,rfl,⟨rfl,.inl ⟨rfl,rfl⟩⟩,Below.refl _ _⟩
    case round=>
     obtain⟨k,ps,hk,rfl,hps,hown,hbr⟩:=hrel;have hzw:=hbr.size;by_cases hlt:k<b.size
     · have hx:b.data.toList[k]? =some b[k]:=by rw [List.getElem?_eq_getElem (by omega)];rfl
       have htk:b.data.toList.take (k+1)=b.data.toList.take k++[b[k]]:=by rw [List.take_add_one,hx];rfl
       have hx256:b[k].toNat<256:=b[k].toNat_lt;have hx256':(b[k].toNat:Int)<256:=by omega
       obtain⟨e1,_,_,v,e4,e5⟩:=(HARR.out.below hbr).get hx256;cases hls:Za0 L b[k].toNat with
       |none=>
        rw [hls] at e1;have e1':wr.cell? ⟨w.heap.size+1+1,b[k].toNat,none⟩=some (.bool false):=e1;have Hr:=Lib.hid (Zkt L k b.data.toList ps 0 b[k] hps hx hls);have hfr:=Zs HFA.out hbr;have g0:wr.cell? ⟨w.heap.size+1,0,none⟩=some (.int .i64 0):=by rw [cell_of_row _ _ 0 _ _ _ hfr];rfl
        have g1:wr.cell? ⟨w.heap.size+1,1,none⟩=some (.int .i64 0):=by rw [cell_of_row _ _ 1 _ _ _ hfr];rfl
        have g2:wr.frozen? ⟨w.heap.size+1,0,none⟩=false:=frozen_of_row _ _ 0 _ _ hfr;have g3:wr.frozen? ⟨w.heap.size+1,1,none⟩=false:=frozen_of_row _ _ 1 _ _ hfr;clear e1 e4 e5 hls hps hx htk hfr hown;go_wp2_with fail
        refine bodyPost_ret (v:= .tuple #[.string ⟨#[]⟩,.agg #[.int .i64 2,.int .i64 k]]) (by simp [results,Tryz.results156,go_sem,g0,g1]) rfl ?_;exact HP.out (.inr k) _ (Hr.out.trans (by rw [Nat.zero_add])) (((HBr.out.trans (hbr.mono (by omega))).setCell (Nat.le_succ _) _).setCell (Nat.le_succ _) _)
       |some p=>
        rw [hls] at e1;have e1':wr.cell? ⟨w.heap.size+1+1,b[k].toNat,none⟩=some (.bool true):=e1;have hv:=e5 p hls;subst hv;have hpr:=ls_rng hLr hls;have hps2:=Lib.hid (show(b.data.toList.take (k+1)).map (fun x=>Za0 L x.toNat)=(ps++[v]).map some by rw [htk,List.map_append,hps,List.map_append,List.map_cons,List.map_nil,hls];rfl);have hpl:ps.length=k:=by have:=congrArg List.length hps;simp at this;omega
        have hcap:(ZH ps).length+4≤140737488355328:=by
         have h1:=Zgb ps;have h2:=(Zah ps).2;omega
        have hnext:Hid ((ZH (ps++[v])).map (Value.int .u8)=(ZH ps).map (Value.int .u8)++Lib.runeCells v):=by
         rw [Zgc,List.map_append];rfl
        have hnext2:Hid ((ZH (ps++[v])).length=(ZH ps).length+(Lib.runeCells v).length):=by
         have:=congrArg List.length hnext.out;simp only [List.length_map,List.length_append] at this;exact this
        clear e1 e5 hls hps hx htk hpl;go_wp2_with (go_at_call 194;refine(Tryz.utf8_AppendRune_plain _ _ _ _ v (by omega) (by omega) _ hown hcap hzw).mono ?_;rintro e w2 ⟨v',rfl,hown2,o,hg2⟩)
        have hb2:Below wo.heap.size wo w2:=Z3 (hbr.alloc hzw o) (hown.alloc o) hg2 (by simp;omega) (Nat.le_refl _);rw [←hnext.out,←hnext2.out] at hown2;go_roundw
        case rel=>exact⟨k+1,ps++[v],by omega,by simp,hps2.out,hown2,hb2⟩
        case measure=>simp [intOf];omega
     · obtain rfl:k=b.size:=by omega
       have hkk2:¬((b.size:Int)<b.size):=by omega
       rw [List.take_of_length_le (by omega)] at hps;have Hr:=Lib.hid (Zg8 L b.data.toList ps 0 hps);have hfr:=Zs HFA.out hbr;have g0:wr.cell? ⟨w.heap.size+1,0,none⟩=some (.int .i64 0):=by rw [cell_of_row _ _ 0 _ _ _ hfr];rfl
       have g1:wr.cell? ⟨w.heap.size+1,1,none⟩=some (.int .i64 0):=by rw [cell_of_row _ _ 1 _ _ _ hfr];rfl
       have g2:wr.frozen? ⟨w.heap.size+1,0,none⟩=false:=frozen_of_row _ _ 0 _ _ hfr;have g3:wr.frozen? ⟨w.heap.size+1,1,none⟩=false:=frozen_of_row _ _ 1 _ _ hfr;have hconv:=ZdP (P:=Tryz.prog) 79 9 5 Tryz.underlying79 Tryz.underlying5 Tryz.underlying9 wr hown;rw [Zf8] at hconv;clear hps hfr;go_wp2_with fail
       refine bodyPost_ret (v:= .tuple #[.string ⟨(Zb ps).toArray⟩,.agg #[.int .i64 0,.int .i64 0]]) (by simp [results,Tryz.results156,go_sem,g0,g1]) rfl ?_;exact HP.out (.inl ps) _ Hr.out (((HBr.out.trans (hbr.mono (by omega))).setCell (Nat.le_succ _) _).setCell (Nat.le_succ _) _)
end Go.Proofs.YtlfinljfghhpdaaGreatDoor
namespace Go.Proofs.YtlfinljfghhpdaaGreatDoor
open Go Go.RowKit Go.Maps
theorem law32:Keyed Tryz.prog 21:=int_keyed Tryz.underlying21
theorem zeroI (w:World):(zeroValue 3).run Tryz.prog w= .ok (.int .i64 0) w:=by kernel_rfl
theorem wf_i32 {p:Int} (h: -2147483648≤p∧p<2147483648):(Lit.int .i32 p).wf=true:=by
 simp [Lit.wf,IntKind.min,IntKind.max,IntKind.bits,IntKind.signed];omega
theorem wf_i64 {c:Nat} (h:c<256):(Lit.int .i64 (c:Int)).wf=true:=by
 simp [Lit.wf,IntKind.min,IntKind.max,IntKind.bits,IntKind.signed];omega
def MpI (w:World)(b n:Nat)(M:Int→Option Nat):Prop:=∃D:DataW Unit,w.ownsMap Tryz.prog 21 (plainElem Tryz.prog 3) b n D∧(∀p:Int,(M p).isSome=Maps.has D (.int .i32 p))∧∀(p:Int) (c:Nat),M p=some c→∀z,D.atKey (.int .i32 p) z= .lit (.int .i64 (c:Int))
theorem MpI.made (w:World):MpI (w.alloc (.map #[] 0)) w.heap.size 0 (fun _=>none):=⟨.map [],World.ownsMap_made _ _ _ _,fun _=>rfl,fun _ _ h=>by cases h⟩
theorem MpI.below {w w':World} {b n:Nat} {M:Int→Option Nat} (h:MpI w b n M)(hb:Below w.heap.size w w'):MpI w' b n M:=by
 obtain⟨D,h1,h2⟩:=h;exact⟨D,h1.kept (row:=none) ⟨hb.os,hb.tape,hb.output,hb.size,fun k hk _=>hb.block k hk⟩ (by simp),h2⟩
theorem MpI.lt {w:World} {b n:Nat} {M:Int→Option Nat} (h:MpI w b n M):b<w.heap.size:=by
 obtain⟨D,h1,_⟩:=h;exact h1.lt
theorem MpI.mono {w:World} {b n n':Nat} {M:Int→Option Nat} (h:MpI w b n M)(hn:n≤n'):MpI w b n' M:=by
 obtain⟨D,h1,h2⟩:=h;exact⟨D,h1.mono hn,h2⟩
theorem MpI.congr {w:World} {b n:Nat} {M M':Int→Option Nat} (h:MpI w b n M)(e:∀p,M p=M' p):MpI w b n M':=by rw [show M=M' from funext e] at h;exact h
theorem MpI.apart {w:World} {b n:Nat} {M:Int→Option Nat} (h:MpI w b n M){a:Addr} {v:Value} (hc:w.cell? a=some v):a.block≠b:=by
 rintro rfl;obtain⟨D,⟨es,clock,h1,_⟩,_⟩:=h;unfold World.cell? at hc;rw [h1] at hc;cases hc
section
variable {ops:Array Oper} {rest:List Oper} {o:Oper} {a:Act} {Q:Exit→Act→World→Prop} {w:World} {b n:Nat} {M:Int→Option Nat}
theorem ZeD (hg:o.guard=none)(m x:Operand)(hop:o.op=Op.lookup 308 m x true)(h:MpI w b n M)(hm:a.eval m= .map (some b))(p:Int)(hx:a.eval x= .int .i32 p)(hp: -2147483648≤p∧p<2147483648)
 (hK:∀c:Int,(∀k,M p=some k→c=k)→wpList Tryz.prog ops Q rest (a.put o.dst (.tuple #[.int .i64 c,.bool (M p).isSome])) w):
 wpList Tryz.prog ops Q (o::rest) a w:=by
 obtain⟨D,h1,h2,h3⟩:=h;refine wpList_lookup_own_ok_int _ hg m x 308 hop 21 3 .i64 law32 Tryz.underlying308 Tryz.underlying3 (zeroI _) b n D hm h1 (.int .i32 p) (.int .i32 p) hx (keyOf_int_mk Tryz.underlying21 (wf_i32 hp)) ?_;intro c hat _;rw [←h2];refine hK c fun k hk=> ?_;rw [h3 p k hk] at hat;simpa using hat.symm
theorem mp_yes (hg:o.guard=none)(m x:Operand)(hop:o.op=Op.lookup 308 m x true)(h:MpI w b n M)(hm:a.eval m= .map (some b))(p:Int)(hx:a.eval x= .int .i32 p)(hp: -2147483648≤p∧p<2147483648){k:Nat} (hk:M p=some k)
 (hK:wpList Tryz.prog ops Q rest (a.put o.dst (.tuple #[.int .i64 (k:Int),.bool true])) w):
 wpList Tryz.prog ops Q (o::rest) a w:=
 ZeD hg m x hop h hm p hx hp fun c hc=>by rw [hc k hk,hk];exact hK
theorem mp_no (hg:o.guard=none)(m x:Operand)(hop:o.op=Op.lookup 308 m x true)(h:MpI w b n M)(hm:a.eval m= .map (some b))(p:Int)(hx:a.eval x= .int .i32 p)(hp: -2147483648≤p∧p<2147483648)(hk:M p=none)
 (hK:∀c:Int,wpList Tryz.prog ops Q rest (a.put o.dst (.tuple #[.int .i64 c,.bool false])) w):
 wpList Tryz.prog ops Q (o::rest) a w:=
 ZeD hg m x hop h hm p hx hp fun c _=>by rw [hk];exact hK c
theorem mp_put (hg:o.guard=none)(m x v:Operand)(hop:o.op=Op.mapUpdate 308 m x v)(h:MpI w b n M)(hm:a.eval m= .map (some b))(p:Int)(hx:a.eval x= .int .i32 p)(hp: -2147483648≤p∧p<2147483648)(c:Nat)(hv:a.eval v= .int .i64 (c:Int))(hc:c<256)(hn:n≤10000000)
 (hK:∀w',MpI w' b (n+1) (fun q=>if q=p then some c else M q)→w.grownBy w' (some b)→wpList Tryz.prog ops Q rest (a.put o.dst undef) w'):
 wpList Tryz.prog ops Q (o::rest) a w:=by
 obtain⟨D,h1,h2,h3⟩:=h;refine wpList_mapUpdate_own _ hg m x v 308 hop 21 3 law32 Tryz.underlying308 _ b n D hm h1 (by unfold maxLen;omega) (.int .i32 p) (.int .i64 (c:Int)) (.int .i32 p) hx hv (keyOf_int_mk Tryz.underlying21 (wf_i32 hp)) (.lit (.int .i64 (c:Int))) [] (plainElem_int Tryz.underlying3 (wf_i64 hc)) ?_;intro w' h4 h5;have hD:IsMap D:=by obtain⟨es,cl,_,_,_,rfl⟩:=h1;exact⟨_,rfl⟩
 refine hK w' ⟨_,h4,fun q=> ?_,fun q k hk z=> ?_⟩ h5
 · show(if q=p then some c else M q).isSome=_
   by_cases e:q=p
   · subst e;rw [if_pos rfl,has_put_same hD (show WideAt.IsKeyLit (.int .i32 q) from trivial)];rfl
   · rw [if_neg e,h2,has_put_other (by simpa using e)]
 · have hk:(if q=p then some c else M q)=some k:=hk;by_cases e:q=p
   · subst e;rw [if_pos rfl] at hk;injection hk with hk;subst hk;exact atKey_put_same hD (show WideAt.IsKeyLit (.int .i32 q) from trivial) _ _
   · rw [if_neg e] at hk;rw [atKey_put_other (by simpa using e)];exact h3 q k hk z
end
def Ze4 (r:List UInt8⊕Nat):Value:=match r with
 | .inl bs=> .tuple #[.string ⟨bs.toArray⟩,.agg #[.int .i64 0,.int .i64 0]]
 | .inr j=> .tuple #[.string ⟨#[]⟩,.agg #[.int .i64 6,.int .i64 (j:Int)]]
def Zgt (r:List UInt8⊕Nat)(w0:World)(e:Ending)(w':World):Prop:=e= .returned (Ze4 r)∧Below w0.heap.size w0 w'
structure One (K:Nat)(w w':World):Prop where
 os:w'.os=w.os
 tape:w'.tape=w.tape
 output:w'.output=w.output
 size:w.heap.size≤w'.heap.size
 block:∀k,k<w.heap.size→k≠K→w'.heap[k]? =w.heap[k]?
theorem One.of {K:Nat} {w w':World} (h:Below w.heap.size w w'):One K w w':=⟨h.os,h.tape,h.output,h.size,fun k hk _=>h.block k hk⟩
theorem One.grown {K:Nat} {w w':World} (h:w.grownBy w' (some K)):One K w w':=⟨h.os,h.tape,h.output,h.size,fun k hk h1=>h.block k hk (by simpa using h1)⟩
theorem One.trans {K:Nat} {a b c:World} (h:One K a b)(g:One K b c):One K a c:=
 ⟨g.os.trans h.os,g.tape.trans h.tape,g.output.trans h.output,Nat.le_trans h.size g.size,fun k hk h1=>(g.block k (Nat.lt_of_lt_of_le hk h.size) h1).trans (h.block k hk h1)⟩
theorem One.below {K B:Nat} {w w':World} (h:One K w w')(hB:B≤K)(hs:B≤w.heap.size):Below B w w':=⟨h.os,h.tape,h.output,h.size,fun k hk=>h.block k (by omega) (by omega)⟩
theorem One.cell {K:Nat} {w w':World} (h:One K w w'){p:Addr} (hp:p.block<w.heap.size)(h1:p.block≠K):w'.cell? p=w.cell? p:=World.cell?_of_block (w:=w) (h.block p.block hp h1)
theorem ZqF {l:List Pr} {x:Pr} (h:(Zl l x.2).isSome=true∨¬x.1<256)(p:Int):Zl l p=Zl (l++[x]) p:=by
 rw [Zfm];by_cases e:x.2=p∧x.1<256
 · obtain⟨rfl,h2⟩:=e;rcases h with h|h
   · obtain⟨c,hc⟩:=Option.isSome_iff_exists.1 h;rw [hc];rfl
   · exact absurd h2 h
 · rw [if_neg e,Option.or_none]
theorem cd_new {l:List Pr} {x:Pr} (h:(Zl l x.2).isSome=false)(h2:x.1<256)(p:Int):(if p=x.2 then some x.1 else Zl l p)=Zl (l++[x]) p:=by
 rw [Zfm];by_cases e:p=x.2
 · subst e;rw [if_pos rfl,if_pos ⟨rfl,h2⟩];cases hq:Zl l x.2 with
   |none=>rfl
   |some c=>rw [hq] at h;cases h
 · rw [if_neg e,if_neg (fun h3=>e h3.1.symm),Option.or_none]
def ZpS (L:List Pr)(K:Nat)(W1:World)(i:Value)(wr:World):Prop:=∃k:Nat,k≤L.length∧i= .int .i64 k∧MpI wr K k (Zl (L.take k))∧One K W1 wr
def SeRel (L:List Pr)(s:ByteArray)(ps:List Int)(It base:Nat)(W1:World)(v:Value)(wr:World):Prop:=∃(k i:Nat) (cs:List Nat),Run ps k i∧wr.heap[It]? =some (.stringIter s i)∧(ps.take k).map (Zl L)=cs.map some∧wr.ownsRow base 5 1 v k ((cs.map fun c:Nat=>(c:Int)).map (Value.int .u8))∧Below base W1 wr
theorem ZlS (cs:List Nat):strOfNums (cs.map fun c:Nat=>(c:Int))=⟨(cs.map Nat.toUInt8).toArray⟩:=by
 unfold strOfNums;rw [List.map_map];rfl
theorem Zpx (A:Option Addr)(c:Nat)(q:Int)(rs:List (Rw×Sl))(s:ByteArray)(ps:List Int)(hg:Good s ps)(L:List Pr)(hL:Zq rs=L)(hLr:∀x∈L, -2147483648≤x.2∧x.2<2147483648)(hs:s.size≤100000)(hn:rs.length≤35184372089000)(w:World)(h:TbR w w.heap.size A rs)(hT:Zj w):
 Calls Tryz.prog 328 #[.agg #[.slice A rs.length c,.int .i64 q],.string s] w (Zgt (ecF (Zl L) ps 0) w):=by
 have HP:Hid (∀r w',ecF (Zl L) ps 0=r→Below w.heap.size w w'→Zgt (ecF (Zl L) ps 0) w (.returned (Ze4 r)) w'):=Lib.hid fun r w' h1 h2=>by rw [h1];exact⟨rfl,h2⟩
 generalize Zgt (ecF (Zl L) ps 0) w=P at*;have hpa:=fun w1 (hb:Below w.heap.size w w1)=>Zjz A c rs hn w1 ((h.below hb).more hb.size);rw [show(rs.map (·.1)).flatMap prs=L from hL] at hpa;unfold ZgD at hpa;have hln:=h.total;rw [←Zf9,show(rs.map (·.1)).flatMap prs=L from hL] at hln;have hlen:=hg.len;obtain⟨i0,hi,iz0,iz1,iz2⟩:=info_parts Zka;have hmm:=@run_makeMap Tryz.prog;obtain⟨W2,hW2⟩:∃W2,W2=(w.alloc (.cells #[.slice A rs.length c,.int .i64 q] 213)).alloc (.cells #[.int .i64 0,.int .i64 0] 33):=⟨_,rfl⟩
 have hz2:W2.heap.size=w.heap.size+1+1:=by rw [hW2];simp
 have hB2:Below w.heap.size w W2:=by rw [hW2];exact((Below.refl _ _).alloc (Nat.le_refl _) _).alloc (by simp) _
 have hf0:W2.heap[w.heap.size+1]? =some (.cells #[.int .i64 0,.int .i64 0] 33 (0,0)):=by
  rw [hW2];have:=heap_alloc_new (w.alloc (.cells #[.slice A rs.length c,.int .i64 q] 213)) (.cells #[.int .i64 0,.int .i64 0] 33);simpa using this
 have hs0:W2.heap[w.heap.size]? =some (.cells #[.slice A rs.length c,.int .i64 q] 213 (0,0)):=by
  rw [hW2,Below.heap_alloc _ _ _ (by simp)];exact heap_alloc_new w _
 have hT2:=Zaz hT hB2 (Nat.le_refl _);have HB2:=Lib.hid hB2;have HF0:=Lib.hid hf0;have HS0:=Lib.hid hs0;have Hz2:=Lib.hid hz2;have HW2:=Lib.hid hW2;have HPA:Hid (∀w1,Below w.heap.size w w1→Calls Tryz.prog 236 #[.agg #[.slice A rs.length c]] w1 fun e w'=>∃A c,e= .returned (.slice A L.length c)∧L.length≤c∧Reads w' w'.heap.size 2 A L.length (L.flatMap prV)∧Below w1.heap.size w1 w'):=Lib.hid hpa;clear hB2 hf0 hs0 hz2 hW2 hpa h hL;go_enter Tryz.func328,Tryz.ntmps328
 go_wp2_with fail
 rw [←HW2.out];refine(Zjd s ps hg (by omega) W2 hT2).mono ?_;rintro e w1 ⟨rfl,hb1⟩;have hz1:=hb1.size;rw [Hz2.out] at hz1;have HF1:=Lib.hid (Zs HF0.out hb1);have HS1:=Lib.hid (Zs HS0.out hb1);have HB1:=Lib.hid (HB2.out.trans (hb1.mono HB2.out.size));have hT1:=Zaz hT2 hb1 (Nat.le_refl _);clear hb1 hT2;go_wp2_with fail
 refine(Zgo 0 0 _).mono ?_;rintro e w2 ⟨rfl,hb2⟩;have HBx:=Lib.hid (HB1.out.trans ((Zf hb2).mono HB1.out.size));have HF2:=Lib.hid (Zs HF1.out (Zf hb2));have hs2:=Zs HS1.out (Zf hb2);have hT2:=Zaz hT1 (Zf hb2) (Nat.le_refl _);have hz2:=(Zf hb2).size;have s0:w2.cell? ⟨w.heap.size,0,none⟩=some (.slice A rs.length c):=by rw [cell_of_row _ _ 0 _ _ _ hs2];rfl
 have s1:(w2.alloc (.map #[] 0)).cell? ⟨w.heap.size,0,none⟩=some (.slice A rs.length c):=(World.cell?_alloc_lt _ _ _ (by show w.heap.size<_;omega)).trans s0;clear hb2 hT1 hs2 s0;go_wp2_with (go_at_call 236;refine(HPA.out _ (HBx.out.trans (((Below.refl _ w2).alloc (Nat.le_refl _) (.map #[] 0)).mono HBx.out.size))).mono ?_;rintro e w3 ⟨A3,c3,rfl,hc3,hr3,hb3⟩)
 have HR3:Hid (PrsL w3 w3.heap.size A3 L):=Lib.hid hr3;have HM3:=Lib.hid ((MpI.made w2).below hb3);have HB3:=Lib.hid (Zf hb3);have hz3:=hb3.size;simp only [World.size_alloc] at hz3;clear hr3 hb3 s1;go_loopw [27] (fun i wr=>ZpS L w2.heap.size w3 i wr) (fun i _=>L.length - (intOf i).toNat)
 case atStart=>exact⟨0,by omega,rfl,HM3.out,One.of (Below.refl _ _)⟩
 case round=>
  obtain⟨k,hk,rfl,hmp,hone⟩:=hrel;have hKz:=hmp.lt;have hzr:=hone.size;by_cases hlt:k<L.length
  · obtain⟨x,hx⟩:∃x,L[k]? =some x:=⟨_,List.getElem?_eq_getElem hlt⟩
    obtain⟨ad,rfl,hadb,y0,y1,_⟩:=HR3.out.pair hx;have n1:=HM3.out.apart y0;rw [ZaE] at n1;have z0:=(hone.cell (p:=ad.add (k*2)) (by rw [ZaE];exact hadb) (by rw [ZaE];exact n1)).trans y0;have z1:=(hone.cell (p:=⟨(ad.add (k*2)).block,(ad.add (k*2)).off+1,none⟩) (by show(ad.add (k*2)).block<_;rw [ZaE];exact hadb) (by show(ad.add (k*2)).block≠_;rw [ZaE];exact n1)).trans y1;have hsn:L.take (k+1)=L.take k++[x]:=by rw [List.take_add_one,hx];rfl
    have Hsn:=Lib.hid hsn;have hxr:=hLr x (List.mem_of_getElem? hx);have hB0:Below wr.heap.size wr (wr.alloc (.cells #[.int .i64 (x.1:Int),.int .i32 x.2] 273)):=(Below.refl _ _).alloc (Nat.le_refl _) _;have hmp1:=hmp.below hB0;have Hone1:=Lib.hid (hone.trans (One.of hB0));have q0:(wr.alloc (.cells #[.int .i64 (x.1:Int),.int .i32 x.2] 273)).cell? ⟨wr.heap.size,0,none⟩=some (.int .i64 (x.1:Int)):=by rw [cell_of_row _ wr.heap.size 0 _ _ _ (heap_alloc_new wr _)];rfl
    have q1:(wr.alloc (.cells #[.int .i64 (x.1:Int),.int .i32 x.2] 273)).cell? ⟨wr.heap.size,1,none⟩=some (.int .i32 x.2):=by rw [cell_of_row _ wr.heap.size 1 _ _ _ (heap_alloc_new wr _)];rfl
    have hl:k<L.length:=hlt;clear hsn n1 y0 y1 hmp;have hkeep:∀p,((Zl (L.take k) x.2).isSome=true∨¬x.1<256)→Zl (L.take k) p=Zl (L.take (k+1)) p:=fun p hh=>by rw [Hsn.out];exact ZqF hh p
    have Hkeep:=Lib.hid hkeep;clear hkeep;by_cases hsm:(Zl (L.take k) x.2).isSome=true
    · go_wp2_with (at_lookup;refine ZeD rfl _ _ rfl hmp1 rfl x.2 rfl hxr ?_;intro cc hcc;clear hcc)
      go_roundw
      case rel=>exact⟨k+1,by omega,by simp,(hmp1.congr fun p=>Hkeep.out p (.inl hsm)).mono (by omega),Hone1.out⟩
      case measure=>simp [intOf];omega
    · have hsm:(Zl (L.take k) x.2).isSome=false:=by simpa using hsm
      by_cases hc:x.1<256
      · have hc':(x.1:Int)<256:=by omega
        have Hnew:=Lib.hid (cd_new hsm hc);go_wp2_with (first
         |(at_lookup;refine ZeD rfl _ _ rfl hmp1 rfl x.2 rfl hxr ?_;intro cc hcc;clear hcc)
         |(at_mapUpdate;refine mp_put rfl _ _ _ rfl hmp1 rfl x.2 rfl hxr x.1 rfl hc (by omega) ?_;intro w4 hmp2 hg4))
        have Hmp2:=Lib.hid hmp2;have Hg4:=Lib.hid hg4;clear hmp2 hg4;go_wp2_with fail
        go_roundw
        case rel=>exact⟨k+1,by omega,by simp,Hmp2.out.congr fun p=>by rw [Hsn.out];exact Hnew.out p,Hone1.out.trans (One.grown Hg4.out)⟩
        case measure=>simp [intOf];omega
      · have hc':¬((x.1:Int)<256):=by omega
        go_wp2_with (at_lookup;refine ZeD rfl _ _ rfl hmp1 rfl x.2 rfl hxr ?_;intro cc hcc;clear hcc)
        go_roundw
        case rel=>exact⟨k+1,by omega,by simp,(hmp1.congr fun p=>Hkeep.out p (.inr hc)).mono (by omega),Hone1.out⟩
        case measure=>simp [intOf];omega
  · obtain rfl:k=L.length:=by omega
    rw [List.take_length] at hmp;have hkk:¬((L.length:Int)<L.length):=by omega
    obtain⟨wo,rfl⟩:∃wo:World,wo=wr:=⟨_,rfl⟩
    have HBr:Hid (Below w.heap.size w wo):=Lib.hid ((HBx.out.trans (HB3.out.mono HBx.out.size)).trans (hone.below (by omega) (by omega)));have hfa:wo.heap[w.heap.size+1]? =some (.cells #[.int .i64 0,.int .i64 0] 33 (0,0)):=by
     rw [hone.block _ (by omega) (by omega),HB3.out.block _ (by omega)];exact HF2.out
    have HFA:=Lib.hid hfa;have HMP:=Lib.hid hmp;have hTr:Zj wo:=Zaz hT HBr.out (Nat.le_refl _);have hrz:w.heap.size+1<wo.heap.size:=by omega
    clear hone hfa hmp;go_wp2_with (first
     |(go_at_call 366;refine(Zjf s ps hg (by omega) _ hTr).mono ?_;rintro e w5 ⟨rfl,hb5⟩;have HB5:=Lib.hid hb5;have hz5:=hb5.size;clear hb5)
     |(at_make;refine wpList_make_own _ rfl _ _ 79 rfl w5.heap.size 5 i0 (.int .u8 0) 1 Tryz.underlying79 hi iz0 iz1 .i64 .i64 _ ps.length rfl rfl rfl (by rw [iz2];omega) (by unfold maxLen;omega) (Nat.le_refl _) ?_;intro w6 hown6 hg6))
    have HM5:=Lib.hid (HMP.out.below HB5.out);have HF5:=Lib.hid (Zs HFA.out HB5.out);have HB6:Hid (Below w5.heap.size w5 w6):=Lib.hid ((Below.refl _ _).grown hg6 (Nat.le_refl _) (by simp));have hz6:=hg6.size;have hown7:=hown6.alloc (.stringIter s 0);have hit:=World.iter_heap w6 s 0;have HO7:=Lib.hid hown7;have HI7:=Lib.hid hit;have hp4:=hg.pre;clear hown6 hg6 hown7 hit;go_wp2_with fail
    go_loopw [12] (fun v wr=>SeRel L s ps w6.heap.size w5.heap.size w5 v wr) (fun _ wr=>s.size+1 - wr.iterPos w6.heap.size)
    case atStart=>exact⟨0,0,[],Run.zero _,HI7.out,rfl,HO7.out,HB6.out.alloc (by omega) _⟩
    case round=>
     obtain⟨k,i,cs,hrun,hK,hcs,hown,hbk⟩:=hrel;have hle:=hrun.le hp4;have hKlt:=ZhI hK;have hzk:=hbk.size;have hpos:=ZcV hK;have hcl:cs.length=k:=by have:=congrArg List.length hcs;simp at this;omega
     by_cases hk:k<ps.length
     · obtain⟨p,n,hst,hrun',hn1,hn4,hin,hp0,hp1,_⟩:=hrun.step hp4 hk;have hstep:=fun ty=>ZfP (P:=Tryz.prog) hst (by omega) wr w6.heap.size hK ty;have hb1:=Lib.below_iterAt hbk (k:=w6.heap.size) (by omega) s (i+n);have hmp:=HM5.out.below hb1;have hpr: -2147483648≤p∧p<2147483648:=by omega
       have hpk:ps[k]? =some p:=by rw [List.getElem?_eq_getElem hk,hst.2.2.1,List.getD_eq_getElem?_getD,List.getElem?_eq_getElem hk];rfl
       cases hcd:Zl L p with
       |none=>
        have hr2:i=(Zb (ps.take k)).length:=hrun.2;have Hr:=Lib.hid (Zhg (Zl L) k ps cs 0 p hcs hpk hcd);rw [←hr2,Nat.zero_add] at Hr;have hfr:=Zs HF5.out hb1;have g0:(wr.iterAt w6.heap.size s (i+n)).cell? ⟨w.heap.size+1,0,none⟩=some (.int .i64 0):=by rw [cell_of_row _ _ 0 _ _ _ hfr];rfl
        have g1:(wr.iterAt w6.heap.size s (i+n)).cell? ⟨w.heap.size+1,1,none⟩=some (.int .i64 0):=by rw [cell_of_row _ _ 1 _ _ _ hfr];rfl
        have g2:(wr.iterAt w6.heap.size s (i+n)).frozen? ⟨w.heap.size+1,0,none⟩=false:=frozen_of_row _ _ 0 _ _ hfr;have g3:(wr.iterAt w6.heap.size s (i+n)).frozen? ⟨w.heap.size+1,1,none⟩=false:=frozen_of_row _ _ 1 _ _ hfr;have HB1x:Hid (Below w.heap.size w (wr.iterAt w6.heap.size s (i+n))):=Lib.hid ((HBr.out.trans (HB5.out.mono HBr.out.size)).trans (hb1.mono (by omega)));clear hr2 hfr hcs hpk hown hcl hst;generalize wr.iterAt w6.heap.size s (i+n)=Wi at*;go_wp2_with (at_lookup;refine mp_no rfl _ _ rfl hmp rfl p rfl hpr hcd ?_;intro cc)
        refine bodyPost_ret (v:= .tuple #[.string ⟨#[]⟩,.agg #[.int .i64 6,.int .i64 i]]) (by simp [results,Tryz.results328,go_sem,g0,g1]) rfl ?_;exact HP.out (.inr i) _ Hr.out ((HB1x.out.setCell (Nat.le_succ _) _).setCell (Nat.le_succ _) _)
       |some m=>
        obtain⟨hm256,_⟩:=ZgU hcd;have hm256':(m:Int)<256:=by omega
        have hw8:IntKind.u8.wrap (m:Int)=m:=by simp [IntKind.wrap,IntKind.bits,IntKind.signed];omega
        have hown1:=Zmb hown hK (i+n);have hK1:=Lib.iterAt_heap wr w6.heap.size s i (i+n) hK;have hsz1:(wr.iterAt w6.heap.size s (i+n)).heap.size=wr.heap.size:=Lib.iterAt_size _ _ _ _;have hcell:=cell_one_new (wr.iterAt w6.heap.size s (i+n)) (.int .u8 (m:Int)) 5;rw [hsz1] at hcell;have hw4:w5.heap.size≤((wr.iterAt w6.heap.size s (i+n)).alloc (.cells #[.int .u8 (m:Int)] 5)).heap.size:=by simp;omega
        have hcs2:=Lib.hid (show(ps.take (k+1)).map (Zl L)=(cs++[m]).map some by rw [hst.snoc hk,List.map_append,hcs,List.map_append,List.map_cons,List.map_nil,hcd];rfl);have hK2:=Below.heap_alloc (wr.iterAt w6.heap.size s (i+n)) (.cells #[.int .u8 (m:Int)] 5) w6.heap.size (by omega);rw [hK1] at hK2;clear hcs hpk hst hcl;go_wp2_with (first
         |(at_lookup;refine mp_yes rfl _ _ rfl hmp rfl p rfl hpr hcd ?_)
         |(at_builtin;refine wpList_append_own _ rfl _ _ 79 rfl w5.heap.size 5 i0 (.int .u8 0) 1 1 Tryz.underlying79 hi iz0 iz1 iz2 rfl (by decide) u12 k _ rfl (hown1.alloc _) ⟨wr.heap.size,0,none⟩ 1 1 [.int .u8 (m:Int)] rfl rfl hcell (by intro u hu;simp at hu;subst hu;rfl) (by unfold maxLen;omega) (by omega) hw4 ?_;intro v' w8 hown5 hg5 _))
        have hK5:=(hg5.block w6.heap.size (by simp;omega) (Zlq hown hK)).trans hK2;have hb5:=Z3 (hb1.alloc (by omega) (.cells #[.int .u8 (m:Int)] 5)) (hown1.alloc _) hg5 hw4 (Nat.le_refl _);refine⟨⟨k+1,i+n,cs++[m],hrun',hK5,hcs2.out,?_,hb5⟩,?_⟩
        · rw [List.map_append,List.map_append];exact hown5
        · rw [hpos,ZcV hK5];omega
     · have hk2:k=ps.length:=by omega
       subst hk2;obtain⟨hi2,_,hie⟩:=hrun.end_ hp4;have hend:=fun ty=>Lib.run_next_end_at (P:=Tryz.prog) wr w6.heap.size s i ty hK (by simp at hie;omega);rw [List.take_length] at hcs;have Hr:=Lib.hid (Zhf (Zl L) ps cs 0 hcs);have hfr:=Zs HF5.out hbk;have g0:wr.cell? ⟨w.heap.size+1,0,none⟩=some (.int .i64 0):=by rw [cell_of_row _ _ 0 _ _ _ hfr];rfl
       have g1:wr.cell? ⟨w.heap.size+1,1,none⟩=some (.int .i64 0):=by rw [cell_of_row _ _ 1 _ _ _ hfr];rfl
       have g2:wr.frozen? ⟨w.heap.size+1,0,none⟩=false:=frozen_of_row _ _ 0 _ _ hfr;have g3:wr.frozen? ⟨w.heap.size+1,1,none⟩=false:=frozen_of_row _ _ 1 _ _ hfr;have hconv:=ZdP (P:=Tryz.prog) 79 9 5 Tryz.underlying79 Tryz.underlying5 Tryz.underlying9 wr hown;rw [ZlS] at hconv;have HBe:Hid (Below w.heap.size w wr):=Lib.hid ((HBr.out.trans (HB5.out.mono HBr.out.size)).trans (hbk.mono (by omega)));clear hcs hfr hi2 hie hcl hown hK hrun hle hpos;go_wp2_with fail
       refine bodyPost_ret (v:= .tuple #[.string ⟨(cs.map Nat.toUInt8).toArray⟩,.agg #[.int .i64 0,.int .i64 0]]) (by simp [results,Tryz.results328,go_sem,g0,g1]) rfl ?_;exact HP.out (.inl (cs.map Nat.toUInt8)) _ Hr.out ((HBe.out.setCell (Nat.le_succ _) _).setCell (Nat.le_succ _) _)
end Go.Proofs.YtlfinljfghhpdaaGreatDoor
