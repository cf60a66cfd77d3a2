/- Lemmas for a statement on the tops; conditions: as each says. -/
import Derived.Test.YtlglfmbccihopaaGreatDoorM35
set_option linter.unusedVariables false
set_option linter.unusedSimpArgs false
set_option maxRecDepth 100000
set_option maxHeartbeats 4000000
namespace Go.Proofs.YtlglfmbccihopaaGreatDoor
open Go Go.RowKit
theorem RdN.rmeta {w:World} {B0:Nat} {A:Option Addr} {l:List Mx} (h:RdN 2 mrV w B0 A l){k:Nat} {x:Mx} (hk:l[k]? =some x):
 ∃ad,A=some ad∧ad.block<B0∧w.cell? (ad.add (k*2))=some (.int .i64 x.kind.toNat)∧w.cell? ⟨(ad.add (k*2)).block,(ad.add (k*2)).off+1,none⟩=some (.string (B x.body)):=by
 obtain⟨ad,hA,hb,hg⟩:=h.at_ ZhM hk;have g0:=hg 0 _ (by omega) rfl;have g1:=hg 1 _ (by omega) rfl;rw [Nat.add_zero] at g0;rw [Zed _ _ _ (by omega)] at g1;exact⟨ad,hA,hb,g0,g1⟩
def SfRelF (w0:World)(BA BB:Array Value)(n:Nat)(i:Value)(wx:World):Prop:=∃k:Nat,k≤n∧i= .int .i64 k∧Bx wx w0.heap.size BA 68∧Bx wx (w0.heap.size+1) BB 68∧Below w0.heap.size w0 wx
theorem ZoZ (ms:List Mx)(v:List UInt8)(s1 s2:Int)(a b:List Nx)(at_:Int)(sound:List UInt8)(A1 A2 M1 M2:Option Addr)(c1 c2 m1 m2:Nat)(hm:ms.length≤1000)(hn:a.length≤1000)(hab:ZcE a b)(w:World)(h1:RdN 3 nxV w w.heap.size A1 a)(h2:RdN 3 nxV w w.heap.size A2 b)(h3:RdN 2 mrV w w.heap.size M1 ms)(h4:RdN 2 mrV w w.heap.size M2 ms):
 Calls Tryz.prog 11 #[.agg (ZbT (.slice M1 ms.length m1) v s1 (.slice A1 a.length c1) at_ sound),.agg (ZbT (.slice M2 ms.length m2) v s2 (.slice A2 b.length c2) at_ sound),.bool false] w fun e w'=>e= .returned (.bool true)∧Below w.heap.size w w':=by
 have hsc:=fun wx (hb:Below w.heap.size w wx)=>ZoY v s1 s2 a b A1 A2 c1 c2 hn hab wx ((h1.below hb).more hb.size) ((h2.below hb).more hb.size);have HR1:=Lib.hid h3;have HR2:=Lib.hid h4;clear h1 h2 h3 h4 hab;unfold ZbT;have X1:Hid (Bx ((w.alloc (.cells #[.slice M1 ms.length m1,.string ⟨#[]⟩,.string (B v),.int .i64 s1,.slice A1 a.length c1,.int .i64 at_,.string (B sound)] 68)).alloc (.cells #[.slice M2 ms.length m2,.string ⟨#[]⟩,.string (B v),.int .i64 s2,.slice A2 b.length c2,.int .i64 at_,.string (B sound)] 68)) w.heap.size #[.slice M1 ms.length m1,.string ⟨#[]⟩,.string (B v),.int .i64 s1,.slice A1 a.length c1,.int .i64 at_,.string (B sound)] 68):=Lib.hid ((Bx.new w _ _).alloc _);have X2:Hid (Bx ((w.alloc (.cells #[.slice M1 ms.length m1,.string ⟨#[]⟩,.string (B v),.int .i64 s1,.slice A1 a.length c1,.int .i64 at_,.string (B sound)] 68)).alloc (.cells #[.slice M2 ms.length m2,.string ⟨#[]⟩,.string (B v),.int .i64 s2,.slice A2 b.length c2,.int .i64 at_,.string (B sound)] 68)) (w.heap.size+1) #[.slice M2 ms.length m2,.string ⟨#[]⟩,.string (B v),.int .i64 s2,.slice A2 b.length c2,.int .i64 at_,.string (B sound)] 68):=Lib.hid (by
  have:=Bx.new (w.alloc (.cells #[.slice M1 ms.length m1,.string ⟨#[]⟩,.string (B v),.int .i64 s1,.slice A1 a.length c1,.int .i64 at_,.string (B sound)] 68)) #[.slice M2 ms.length m2,.string ⟨#[]⟩,.string (B v),.int .i64 s2,.slice A2 b.length c2,.int .i64 at_,.string (B sound)] 68
  rwa [World.size_alloc] at this)
 have L0:Hid (Below w.heap.size w ((w.alloc (.cells #[.slice M1 ms.length m1,.string ⟨#[]⟩,.string (B v),.int .i64 s1,.slice A1 a.length c1,.int .i64 at_,.string (B sound)] 68)).alloc (.cells #[.slice M2 ms.length m2,.string ⟨#[]⟩,.string (B v),.int .i64 s2,.slice A2 b.length c2,.int .i64 at_,.string (B sound)] 68))):=Lib.hid (((Below.refl _ w).alloc (Nat.le_refl _) _).alloc (by simp) _);go_enter Tryz.func11,Tryz.ntmps11
 go_wp2_with (go_at_call 27;refine(hsc _ L0.out).mono ?_;rintro e wq ⟨rfl,hbq⟩;have Y1:=Lib.hid (X1.out.below hbq);have Y2:=Lib.hid (X2.out.below hbq);have LO:=Lib.hid (L0.out.trans (hbq.mono L0.out.size));clear hbq;have c0:=Y1.out.cell 0;have d0:=Y2.out.cell 0;have hl1:=Y1.out.lt;have hl2:=Y2.out.lt)
 clear c0 d0 hl1 hl2 hsc;go_loopw [41] (fun i wx=>SfRelF w #[.slice M1 ms.length m1,.string ⟨#[]⟩,.string (B v),.int .i64 s1,.slice A1 a.length c1,.int .i64 at_,.string (B sound)] #[.slice M2 ms.length m2,.string ⟨#[]⟩,.string (B v),.int .i64 s2,.slice A2 b.length c2,.int .i64 at_,.string (B sound)] ms.length i wx) (fun i _=>ms.length - (intOf i).toNat)
 case atStart=>exact⟨0,Nat.zero_le _,rfl,Y1.out,Y2.out,LO.out⟩
 case round=>
  obtain⟨k,hk,rfl,hx1,hx2,hlo⟩:=hrel;clear X1 X2 L0 Y1 Y2 LO;have Y1:=Lib.hid hx1;have Y2:=Lib.hid hx2;have LO:=Lib.hid hlo;have c0:=hx1.cell 0;have d0:=hx2.cell 0;have hl1:=hx1.lt;have hl2:=hx2.lt;clear hx1 hx2 hlo;by_cases hlt:k<ms.length
  · obtain⟨x,hk1⟩:∃x,ms[k]? =some x:=⟨_,List.getElem?_eq_getElem hlt⟩
    obtain⟨ad,rfl,hadb,y0,y1⟩:=(HR1.out.below LO.out).rmeta hk1;obtain⟨be,rfl,hbdb,z0,z1⟩:=(HR2.out.below LO.out).rmeta hk1;clear hk1;go_upto_region 6 with fail
    refine ZcX (fun w'=>w'.cell? ⟨w.heap.size,0,none⟩=some (.slice (some ad) ms.length m1)∧w'.cell? ⟨w.heap.size+1,0,none⟩=some (.slice (some be) ms.length m2)∧w'.cell? (ad.add (k*2))=some (.int .i64 x.kind.toNat)∧w'.cell? ⟨(ad.add (k*2)).block,(ad.add (k*2)).off+1,none⟩=some (.string (B x.body))∧w'.cell? (be.add (k*2))=some (.int .i64 x.kind.toNat)∧w'.cell? ⟨(be.add (k*2)).block,(be.add (k*2)).off+1,none⟩=some (.string (B x.body))) [(0,true),(1,true),(2,true),(3,true),(4,true),(5,true),(6,true),(7,true),(8,true),(9,true),(10,true)] (by kernel_rfl) (by kernel_rfl) (by kernel_rfl) (Nat.le_of_ble_eq_true rfl) (fun _ _ d _ _ h=>by cases d<;>exact h) ⟨c0,d0,y0,y1,z0,z1⟩ ?_
    iterate 10 (refine' Zaj rfl (by rfl) _ (fun w' hSw=>_) _;rotate_left;(obtain⟨e0,e1,e2,e3,e4,e5⟩:=hSw;go_simp;try with_reducible rfl);try simp only [Act.put,List.setIfInBounds_toArray,List.set_cons_zero,List.set_cons_succ])
    refine Zaj rfl (by rfl) (.bool false) (fun w' hSw=>by go_simp) ?_
    try simp only [Act.put,List.setIfInBounds_toArray,List.set_cons_zero,List.set_cons_succ]
    refine ZcK ?_;go_wp2_with fail
    go_roundw
    case rel=>exact⟨k+1,by omega,by go_num,Y1.out,Y2.out,LO.out.drew⟩
    case measure=>simp [intOf];omega
  · obtain rfl:k=ms.length:=by omega
    go_wp2_with fail
    go_ret
    exact⟨rfl,LO.out⟩
end Go.Proofs.YtlglfmbccihopaaGreatDoor
namespace Go.Proofs.YtlglfmbccihopaaGreatDoor
open Go Go.RowKit Go.ChangeShapes Go.WideShapes Go.Deep
theorem Zmw {α:Type} (m:Nat)(f:α→List Value)(hf:∀x,(f x).length=m)(hm:0<m){w:World} {a:Addr} {l:List α} (hR:∀i p,l[i]? =some p→∀j,j<m→w.cell? (a.add (i*m+j))=(f p)[j]?):RdN m f w w.heap.size (some a) l:=by
 refine⟨Zfv m f hf l,fun hn=>⟨a,rfl,?_,fun j u hu=> ?_⟩⟩
 · have hx:=List.getElem?_eq_getElem hn;have h0:=hR 0 _ hx 0 hm;have hsome:∃u,(f l[0])[0]? =some u:=⟨_,List.getElem?_eq_getElem (by rw [hf];exact hm)⟩
   obtain⟨u,hu⟩:=hsome;have:=World.block_lt_of_cell? _ _ (h0.trans hu)
   rwa [Z3] at this
 · have hj:j<l.length*m:=by rw [←Zfv m f hf l];exact(List.getElem?_eq_some_iff.1 hu).1
   have hjm:j / m<l.length:=Nat.div_lt_of_lt_mul (by rw [Nat.mul_comm];exact hj);have hmod:j % m<m:=Nat.mod_lt _ hm;have hx:=List.getElem?_eq_getElem hjm;have h1:=Zel m f hf l (j / m) (j % m) _ hx hmod;have e:j / m*m+j % m=j:=by rw [Nat.mul_comm];exact Nat.div_add_mod j m
   rw [e] at h1;rw [h1] at hu;have h2:=hR (j / m) _ hx (j % m) hmod;rw [e] at h2;rw [h2,hu]
section
variable {H:Type} {enc:TypeId×Value→H} {w:World} {base:Nat} {spare:Nat→Bool} {held:Bool}
theorem ZlY {fuel:Nat} {cs:List Value} {x:DataW H×List MemPlace} (h:DataW.trod enc Tryz.prog w base spare held fuel 25 cs=some x):∃(s:ByteArray) (z:Int),cs=[.string s,.int .i64 z]:=by
 obtain⟨y0,y1,n,_,hl,g0,g1⟩:=trod_struct2 Tryz.underlying25 h;have hC:Tryz.prog.cellsOf 25=2:=by kernel_rfl
 rw [hC] at hl;have o0:Tryz.prog.cellsOf 9=1:=by kernel_rfl
 have o1:Tryz.prog.cellsOf 23=1:=by kernel_rfl
 match cs,hl with
 |[c0,c1],_=>
  change DataW.trod enc Tryz.prog w base spare held n 9 ((([c0,c1]:List Value).drop 0).take (Tryz.prog.cellsOf 9))=some y0 at g0
  rw [o0] at g0;change DataW.trod enc Tryz.prog w base spare held n 9 [c0]=some y0 at g0
  change DataW.trod enc Tryz.prog w base spare held n 23 ((([c0,c1]:List Value).drop 1).take (Tryz.prog.cellsOf 23))=some y1 at g1
  rw [o1] at g1;change DataW.trod enc Tryz.prog w base spare held n 23 [c1]=some y1 at g1
  obtain⟨s0,d0,_,_⟩:=DataW.trod_string Tryz.underlying9 g0;obtain⟨z1,d1,_,_⟩:=DataW.trod_int Tryz.underlying23 g1;injection d0 with d0
  injection d1 with d1
  exact⟨s0,z1,by rw [d0,d1]⟩
theorem Zr0 {fuel:Nat} {cs:List Value} {x:DataW H×List MemPlace} (h:DataW.trod enc Tryz.prog w base spare held fuel 22 cs=some x):
 ∃(A:Option Addr) (c:Nat) (l:List Mx),cs=[.slice A l.length c]∧l.length≤maxLen∧RdN 2 mxV w w.heap.size A l:=by
 have hC:Tryz.prog.cellsOf 72=2:=by kernel_rfl
 have o0:Tryz.prog.cellsOf 5=1:=by kernel_rfl
 have o1:Tryz.prog.cellsOf 9=1:=by kernel_rfl
 rcases open_slice Tryz.underlying22 h with⟨hc,_⟩|⟨a,len,cap,m,n,D,Pl,hc,_,hle,hcm,hm,_,hall⟩
 · exact⟨none,0,[],hc,by decide,Reads.none_⟩
 · have hlm:len≤m:=by rw [hm];split<;>omega
   rw [hC] at hall;obtain⟨l,hl,hR⟩:=ZgU (R:=fun i (p:Mx)=>∀j,j<2→w.cell? (a.add (i*2+j))=(mxV p)[j]?) len fun i hi=>by
    obtain⟨cs',h1,h2⟩:=hall i (by omega);obtain⟨_,h3,h4⟩:=World.cells?_some h1;obtain⟨y0,y1,k,_,_,g0,g1⟩:=trod_struct2 Tryz.underlying72 h2
    match cs',h3 with
    |[c0,c1],_=>
     change DataW.trod enc Tryz.prog w base spare held k 5 ((([c0,c1]:List Value).drop 0).take (Tryz.prog.cellsOf 5))=some y0 at g0
     rw [o0] at g0;change DataW.trod enc Tryz.prog w base spare held k 5 [c0]=some y0 at g0
     change DataW.trod enc Tryz.prog w base spare held k 9 ((([c0,c1]:List Value).drop 1).take (Tryz.prog.cellsOf 9))=some y1 at g1
     rw [o1] at g1;change DataW.trod enc Tryz.prog w base spare held k 9 [c1]=some y1 at g1
     obtain⟨z0,d0,_,f0⟩:=DataW.trod_int Tryz.underlying5 g0;obtain⟨s1,d1,_,_⟩:=DataW.trod_string Tryz.underlying9 g1;injection d0 with d0
     injection d1 with d1
     subst d0 d1;simp only [Lit.wf,Bool.and_eq_true,decide_eq_true_eq] at f0;have hz0:(0:Int)≤z0:=f0.1;have hz1:z0≤(255:Int):=f0.2;refine⟨⟨UInt8.ofNat z0.toNat,s1.data.toList⟩,fun j hj=> ?_⟩;have h5:=h4 j hj;rw [Go.Deep.add_add] at h5;rw [h5];have e0:((UInt8.ofNat z0.toNat).toNat:Int)=z0:=by
      rw [UInt8.toNat_ofNat',Nat.mod_eq_of_lt (by omega)];omega
     unfold mxV;simp only [e0];rw [←ZcY s1]
   subst hl;exact⟨some a,cap,l,hc,by omega,Zmw 2 mxV Zet (by omega) hR⟩
theorem Zr1 {fuel:Nat} {cs:List Value} {x:DataW H×List MemPlace} (h:DataW.trod enc Tryz.prog w base spare held fuel 26 cs=some x):
 ∃(A:Option Addr) (c:Nat) (l:List Nx),cs=[.slice A l.length c]∧l.length≤maxLen∧RdN 3 nxV w w.heap.size A l:=by
 have hC:Tryz.prog.cellsOf 93=3:=by kernel_rfl
 have o0:Tryz.prog.cellsOf 9=1:=by kernel_rfl
 have o1:Tryz.prog.cellsOf 25=2:=by kernel_rfl
 rcases open_slice Tryz.underlying26 h with⟨hc,_⟩|⟨a,len,cap,m,n,D,Pl,hc,_,hle,hcm,hm,_,hall⟩
 · exact⟨none,0,[],hc,by decide,Reads.none_⟩
 · have hlm:len≤m:=by rw [hm];split<;>omega
   rw [hC] at hall;obtain⟨l,hl,hR⟩:=ZgU (R:=fun i (p:Nx)=>∀j,j<3→w.cell? (a.add (i*3+j))=(nxV p)[j]?) len fun i hi=>by
    obtain⟨cs',h1,h2⟩:=hall i (by omega);obtain⟨_,h3,h4⟩:=World.cells?_some h1;obtain⟨y0,y1,k,_,_,g0,g1⟩:=trod_struct2 Tryz.underlying93 h2
    match cs',h3 with
    |[c0,c1,c2],_=>
     change DataW.trod enc Tryz.prog w base spare held k 9 ((([c0,c1,c2]:List Value).drop 0).take (Tryz.prog.cellsOf 9))=some y0 at g0
     rw [o0] at g0;change DataW.trod enc Tryz.prog w base spare held k 9 [c0]=some y0 at g0
     change DataW.trod enc Tryz.prog w base spare held k 25 ((([c0,c1,c2]:List Value).drop 1).take (Tryz.prog.cellsOf 25))=some y1 at g1
     rw [o1] at g1;change DataW.trod enc Tryz.prog w base spare held k 25 [c1,c2]=some y1 at g1
     obtain⟨s0,d0,_,_⟩:=DataW.trod_string Tryz.underlying9 g0;obtain⟨s1,z2,d1⟩:=ZlY g1;injection d0 with d0
     injection d1 with d1 d2
     injection d2 with d2
     subst d0 d1 d2;refine⟨⟨s0.data.toList,s1.data.toList,z2⟩,fun j hj=> ?_⟩;have h5:=h4 j hj;rw [Go.Deep.add_add] at h5;rw [h5];unfold nxV;rw [←ZcY s0,←ZcY s1]
   subst hl;exact⟨some a,cap,l,hc,by omega,Zmw 3 nxV ZdO (by omega) hR⟩
theorem ZrZ {fuel:Nat} {cs:List Value} {x:DataW H×List MemPlace} (h:DataW.trod enc Tryz.prog w base spare held fuel 30 cs=some x):
 ∃(ms:List Mx) (v:List UInt8) (vs:Int) (ns:List Nx) (at_:Int) (sound:List UInt8) (A AN:Option Addr) (c cN:Nat),cs=[.slice A ms.length c,.string (B v),.int .i64 vs,.slice AN ns.length cN,.int .i64 at_,.string (B sound)]∧
  ms.length≤maxLen∧ns.length≤maxLen∧RdN 2 mxV w w.heap.size A ms∧RdN 3 nxV w w.heap.size AN ns:=by
 obtain⟨xs,n,_,_,hl,hxl,hg⟩:=DataW.trod_struct Tryz.underlying30 h;have hC:Tryz.prog.cellsOf 30=6:=by kernel_rfl
 rw [hC] at hl;have o0:Tryz.prog.cellsOf 22=1:=by kernel_rfl
 have o1:Tryz.prog.cellsOf 28=3:=by kernel_rfl
 have o2:Tryz.prog.cellsOf 3=1:=by kernel_rfl
 have o3:Tryz.prog.cellsOf 9=1:=by kernel_rfl
 have p0:Tryz.prog.cellsOf 25=2:=by kernel_rfl
 have p1:Tryz.prog.cellsOf 26=1:=by kernel_rfl
 have hx:∀j,j<4→∃y,xs[j]? =some y:=fun j hj=>⟨_,List.getElem?_eq_getElem (by rw [hxl];exact hj)⟩
 obtain⟨y0,e0⟩:=hx 0 (by omega);obtain⟨y1,e1⟩:=hx 1 (by omega);obtain⟨y2,e2⟩:=hx 2 (by omega);obtain⟨y3,e3⟩:=hx 3 (by omega);have g0:=hg 0 _ rfl;have g1:=hg 1 _ rfl;have g2:=hg 2 _ rfl;have g3:=hg 3 _ rfl;rw [e0] at g0;rw [e1] at g1;rw [e2] at g2;rw [e3] at g3
 match cs,hl with
 |[c0,c1,c2,c3,c4,c5],_=>
  change DataW.trod enc Tryz.prog w base spare held n 22 ((([c0,c1,c2,c3,c4,c5]:List Value).drop 0).take (Tryz.prog.cellsOf 22))=some y0 at g0
  rw [o0] at g0;change DataW.trod enc Tryz.prog w base spare held n 22 [c0]=some y0 at g0
  change DataW.trod enc Tryz.prog w base spare held n 28 ((([c0,c1,c2,c3,c4,c5]:List Value).drop 1).take (Tryz.prog.cellsOf 28))=some y1 at g1
  rw [o1] at g1;change DataW.trod enc Tryz.prog w base spare held n 28 [c1,c2,c3]=some y1 at g1
  change DataW.trod enc Tryz.prog w base spare held n 3 ((([c0,c1,c2,c3,c4,c5]:List Value).drop 4).take (Tryz.prog.cellsOf 3))=some y2 at g2
  rw [o2] at g2;change DataW.trod enc Tryz.prog w base spare held n 3 [c4]=some y2 at g2
  change DataW.trod enc Tryz.prog w base spare held n 9 ((([c0,c1,c2,c3,c4,c5]:List Value).drop 5).take (Tryz.prog.cellsOf 9))=some y3 at g3
  rw [o3] at g3;change DataW.trod enc Tryz.prog w base spare held n 9 [c5]=some y3 at g3
  obtain⟨z0,z1,k,_,_,b0,b1⟩:=trod_struct2 Tryz.underlying28 g1;change DataW.trod enc Tryz.prog w base spare held k 25 ((([c1,c2,c3]:List Value).drop 0).take (Tryz.prog.cellsOf 25))=some z0 at b0
  rw [p0] at b0;change DataW.trod enc Tryz.prog w base spare held k 25 [c1,c2]=some z0 at b0
  change DataW.trod enc Tryz.prog w base spare held k 26 ((([c1,c2,c3]:List Value).drop 2).take (Tryz.prog.cellsOf 26))=some z1 at b1
  rw [p1] at b1;change DataW.trod enc Tryz.prog w base spare held k 26 [c3]=some z1 at b1
  obtain⟨A,c,ms,d0,hm,hR⟩:=Zr0 g0;obtain⟨s1,v2,d1⟩:=ZlY b0;obtain⟨AN,cN,ns,d3,hn,hN⟩:=Zr1 b1;obtain⟨at_,d4,_,_⟩:=DataW.trod_int Tryz.underlying3 g2;obtain⟨s5,d5,_,_⟩:=DataW.trod_string Tryz.underlying9 g3;injection d0 with d0
  injection d1 with d1 d2
  injection d2 with d2
  injection d3 with d3
  injection d4 with d4
  injection d5 with d5
  subst d0 d1 d2 d3 d4 d5;exact⟨ms,s1.data.toList,v2,ns,at_,s5.data.toList,A,AN,c,cN,by rw [←ZcY s1,←ZcY s5],hm,hn,hR,hN⟩
theorem Zr2 {fuel:Nat} {cs:List Value} {x:DataW H×List MemPlace} (h:DataW.trod enc Tryz.prog w base spare held fuel 33 cs=some x):∃(kd fb bud:Int) (det:Bool),cs=[.int .i64 kd,.int .i64 fb,.bool det,.int .i64 bud]:=by
 obtain⟨xs,n,_,_,hl,hxl,hg⟩:=DataW.trod_struct Tryz.underlying33 h;have hC:Tryz.prog.cellsOf 33=4:=by kernel_rfl
 rw [hC] at hl;have o0:Tryz.prog.cellsOf 31=1:=by kernel_rfl
 have o1:Tryz.prog.cellsOf 23=1:=by kernel_rfl
 have o2:Tryz.prog.cellsOf 4=1:=by kernel_rfl
 have o3:Tryz.prog.cellsOf 3=1:=by kernel_rfl
 have hx:∀j,j<4→∃y,xs[j]? =some y:=fun j hj=>⟨_,List.getElem?_eq_getElem (by rw [hxl];exact hj)⟩
 obtain⟨y0,e0⟩:=hx 0 (by omega);obtain⟨y1,e1⟩:=hx 1 (by omega);obtain⟨y2,e2⟩:=hx 2 (by omega);obtain⟨y3,e3⟩:=hx 3 (by omega);have g0:=hg 0 _ rfl;have g1:=hg 1 _ rfl;have g2:=hg 2 _ rfl;have g3:=hg 3 _ rfl;rw [e0] at g0;rw [e1] at g1;rw [e2] at g2;rw [e3] at g3
 match cs,hl with
 |[c0,c1,c2,c3],_=>
  change DataW.trod enc Tryz.prog w base spare held n 31 ((([c0,c1,c2,c3]:List Value).drop 0).take (Tryz.prog.cellsOf 31))=some y0 at g0
  rw [o0] at g0;change DataW.trod enc Tryz.prog w base spare held n 31 [c0]=some y0 at g0
  change DataW.trod enc Tryz.prog w base spare held n 23 ((([c0,c1,c2,c3]:List Value).drop 1).take (Tryz.prog.cellsOf 23))=some y1 at g1
  rw [o1] at g1;change DataW.trod enc Tryz.prog w base spare held n 23 [c1]=some y1 at g1
  change DataW.trod enc Tryz.prog w base spare held n 4 ((([c0,c1,c2,c3]:List Value).drop 2).take (Tryz.prog.cellsOf 4))=some y2 at g2
  rw [o2] at g2;change DataW.trod enc Tryz.prog w base spare held n 4 [c2]=some y2 at g2
  change DataW.trod enc Tryz.prog w base spare held n 3 ((([c0,c1,c2,c3]:List Value).drop 3).take (Tryz.prog.cellsOf 3))=some y3 at g3
  rw [o3] at g3;change DataW.trod enc Tryz.prog w base spare held n 3 [c3]=some y3 at g3
  obtain⟨z0,d0,_,_⟩:=DataW.trod_int Tryz.underlying31 g0;obtain⟨z1,d1,_,_⟩:=DataW.trod_int Tryz.underlying23 g1;obtain⟨b2,d2,_⟩:=DataW.trod_bool Tryz.underlying4 g2;obtain⟨z3,d3,_,_⟩:=DataW.trod_int Tryz.underlying3 g3;injection d0 with d0
  injection d1 with d1
  injection d2 with d2
  injection d3 with d3
  subst d0 d1 d2 d3;exact⟨z0,z1,z3,b2,rfl⟩
end
end Go.Proofs.YtlglfmbccihopaaGreatDoor
