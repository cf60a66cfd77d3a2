/- Lemmas for a statement on the tops; conditions: as each says. -/
import Derived.Test.YtecandjkbbpooaaGreatDoorM40
set_option linter.unusedVariables false
set_option linter.unusedSimpArgs false
set_option maxRecDepth 100000
set_option maxHeartbeats 1000000
namespace Go.Proofs.YtecandjkbbpooaaGreatDoor
open Go Go.RowKit
def Z0 (v:Nat)(its:List It):List Fr:=its.map fun x=>(ZP v x.f x.ps).getD x.f
def ZaF (v:Int)(rev fl:UInt8)(its:List It)(sound:List UInt8):Option (List UInt8):=
 if v=0 then(if its≠[]∨rev≠0∨fl≠0∨sound.take 3=ZB then none else some sound)
 else if its.all (fun x=>(ZP v.toNat x.f x.ps).isSome)=false then none
 else(prR v rev fl (Z0 v.toNat its)).map (· ++sound)
theorem ZiM {v:Nat} {f f':Fr} {ps:List Pi} (h:ZP v f ps=some f'):f'.id=f.id:=by
 unfold ZP at h
 (repeat' split at h)<;>first|(cases h;done)|(injection h with h;rw [←h])
theorem ZqW {v:Nat} {its:List It} {n:Nat} (h:∀x∈its,x.f.id.length≤n):∀f∈Z0 v its,f.id.length≤n:=by
 intro f hf;obtain⟨x,hx,rfl⟩:=List.mem_map.1 hf;cases hw:ZP v x.f x.ps with
 |none=>exact h x hx
 |some f'=>
  show f'.id.length≤n
  rw [ZiM hw];exact h x hx
theorem ZhM {v:Nat} {its:List It} {k:Nat} {x:It} {f:Fr} (hk:its[k]? =some x)(hw:ZP v x.f x.ps=some f):(Z0 v its)[k]? =some f:=by
 unfold Z0;rw [List.getElem?_map,hk,Option.map_some,hw];rfl
theorem RdN.it7 {w:World} {B0:Nat} {A:Option Addr} {l:List (It×Value)} (h:RdN 7 itV w B0 A l){k:Nat} {x:It×Value} (hk:l[k]? =some x):
 ∃ad,A=some ad∧ad.block<B0∧w.cell? (ad.add (k*7))=some (.string (B x.1.f.id))∧w.cell? ⟨(ad.add (k*7)).block,(ad.add (k*7)).off+1,none⟩=some (.int .u8 x.1.f.st.toNat)∧w.cell? ⟨(ad.add (k*7)).block,(ad.add (k*7)).off+2,none⟩=some (.int .u8 x.1.f.fm.toNat)∧
  w.cell? ⟨(ad.add (k*7)).block,(ad.add (k*7)).off+3,none⟩=some (.int .u8 x.1.f.grp.toNat)∧w.cell? ⟨(ad.add (k*7)).block,(ad.add (k*7)).off+4,none⟩=some (.string (B x.1.f.body))∧w.cell? ⟨(ad.add (k*7)).block,(ad.add (k*7)).off+5,none⟩=some (.int .i64 x.1.f.at_)∧
  w.cell? ⟨(ad.add (k*7)).block,(ad.add (k*7)).off+6,none⟩=some x.2:=by
 obtain⟨ad,hA,hb,hg⟩:=h.at_ Zfe hk;have g0:=hg 0 _ (by omega) rfl;have g1:=hg 1 _ (by omega) rfl;have g2:=hg 2 _ (by omega) rfl;have g3:=hg 3 _ (by omega) rfl;have g4:=hg 4 _ (by omega) rfl;have g5:=hg 5 _ (by omega) rfl;have g6:=hg 6 _ (by omega) rfl;rw [Nat.add_zero] at g0;rw [ZfS _ _ _ (by omega)] at g1 g2 g3 g4 g5 g6;exact⟨ad,hA,hb,g0,g1,g2,g3,g4,g5,g6⟩
def ZjG (w:World)(H:Nat)(T:Array Value)(v:Int)(rev fl:UInt8)(fs:List Fr)(good:Nat→Prop)(i:Value)(wr:World):Prop:=
 ∃(k:Nat) (vl:Value),k≤fs.length∧i= .int .i64 k∧PtSt w wr H T #[.int .i64 v,.int .u8 rev.toNat,.int .u8 fl.toNat,vl]∧
  Hid (wr.ownsRow (H+1) 34 6 vl (fs.take k).length ((fs.take k).flatMap frV))∧Hid ((fs.take k)=[]→vl= .slice none 0 0)∧Hid (good k)
theorem ZsI {w W W6:World} {H:Nat} {T:Array Value} {v:Int} {rev fl:UInt8} {fs:List Fr} {good:Nat→Prop} {k:Nat} {vl v6:Value} {f:Fr} (hk:fs[k]? =some f)(hs:PtSt w W H T #[.int .i64 v,.int .u8 rev.toNat,.int .u8 fl.toNat,vl])
 (HO:W6.ownsRow (H+1) 34 6 v6 (fs.take k++[f]).length ((fs.take k++[f]).flatMap frV)) (hb:Below (H+1) W W6) (hg:good (k+1)):
 ZjG w H T v rev fl fs good (.int .i64 ((k+1:Nat):Int)) (W6.setCell ⟨H,3,none⟩ v6):=by
 have hkl:k<fs.length:=(List.getElem?_eq_some_iff.1 hk).1;have e:fs.take k++[f]=fs.take (k+1):=by rw [List.take_add_one,hk];rfl
 rw [e] at HO;refine⟨k+1,v6,by omega,rfl,(hs.low3 hb).put 3 v6,Lib.hid (Zdn HO ((But.refl H _ _).setCell (p:=⟨H,3,none⟩) (.inr rfl) v6) (Nat.lt_succ_self _)),Lib.hid fun h=> ?_,Lib.hid hg⟩;rw [←e] at h;exact absurd h (by simp)
def Zew (v:Nat)(xs:List (It×Value))(k:Nat):Prop:=∀(j:Nat) (x:It×Value),j<k→xs[j]? =some x→(ZP v x.1.f x.1.ps).isSome=true
theorem Zq4 {v:Nat} {xs:List (It×Value)} (h:Zew v xs xs.length):(xs.map (·.1)).all (fun x=>(ZP v x.f x.ps).isSome)=true:=by
 rw [List.all_eq_true];intro y hy;obtain⟨x,hx,rfl⟩:=List.mem_map.1 hy;obtain⟨j,hj⟩:=List.getElem?_of_mem hx;exact h j x (List.getElem?_eq_some_iff.1 hj).1 hj
theorem Zq5 {v:Nat} {xs:List (It×Value)} {k:Nat} {x:It×Value} (hk:xs[k]? =some x)(hw:ZP v x.1.f x.1.ps=none):(xs.map (·.1)).all (fun x=>(ZP v x.f x.ps).isSome)=false:=by
 rw [List.all_eq_false];refine⟨x.1,List.mem_map.2 ⟨x,List.mem_of_getElem? hk,rfl⟩,?_⟩;rw [hw];decide
theorem Zq6 {v:Nat} {xs:List (It×Value)} {k:Nat} {x:It×Value} {f:Fr} (h:Zew v xs k)(hk:xs[k]? =some x)(hw:ZP v x.1.f x.1.ps=some f):Zew v xs (k+1):=by
 intro j y hj hy;rcases Nat.lt_succ_iff_lt_or_eq.1 hj with h1|h1
 · exact h j y h1 hy
 · subst h1;rw [hk] at hy;injection hy with hy
   rw [←hy,hw];rfl
theorem ZoA (v:Int)(hv:v≠0)(rev fl:UInt8)(xs:List (It×Value))(A:Option Addr)(c:Nat)(sound:List UInt8)(w:World)(T:Array Value)
 (h1:T[1]? =some (.int .i64 v)) (h2:T[2]? =some (.int .u8 rev.toNat)) (h3:T[3]? =some (.int .u8 fl.toNat)) (h4:T[4]? =some (.slice A xs.length c)) (h5:T[5]? =some (.string (B sound)))
 (hr:RdN 7 itV w w.heap.size A xs) (hsl:∀x∈xs,∃A c,x.2= .slice A x.1.ps.length c∧RdN 4 piL w w.heap.size A x.1.ps) (hn:xs.length≤100000)
 (hsz:∀x∈xs,x.1.f.id.length≤100000∧x.1.ps.length≤100000∧∀p∈x.1.ps,p.text.length≤100000) (hG:Grd w)
 (h9:v=2→∀f∈Z0 v.toNat (xs.map (·.1)),(Zg 2 f).length≤16777215) (hsum:(((Z0 v.toNat (xs.map (·.1))).map (Zt v.toNat)).flatten).length≤130000000) (hsd:sound.length≤1000000000) (hpl:(ZaS ⟨v.toNat,rev,fl,Z0 v.toNat (xs.map (·.1))⟩).length≤1000000000):
 Calls Tryz.prog 14 #[.agg T] w (Zar w (ZaF v rev fl (xs.map (·.1)) sound)):=by
 have hv0:(v==0)=false:=by rw [beq_eq_false_iff_ne];exact hv
 have hid:∀f∈Z0 v.toNat (xs.map (·.1)),f.id.length≤100000:=ZqW fun y hy=>by
  obtain⟨x,hx,rfl⟩:=List.mem_map.1 hy;exact(hsz x hx).1
 have hat:∀(k:Nat) (x:It×Value) (f:Fr),xs[k]? =some x→ZP v.toNat x.1.f x.1.ps=some f→(Z0 v.toNat (xs.map (·.1)))[k]? =some f:=fun k x f hk hw=>ZhM (x:=x.1) (by rw [List.getElem?_map,hk];rfl) hw;have hfl:(Z0 v.toNat (xs.map (·.1))).length=xs.length:=by unfold Z0;rw [List.length_map,List.length_map]
 have hpok:Zew v.toNat xs xs.length→ZaF v rev fl (xs.map (·.1)) sound=(prR v rev fl (Z0 v.toNat (xs.map (·.1)))).map (· ++sound):=fun h=>by
  unfold ZaF;rw [if_neg hv,Zq4 h,if_neg (by decide)]
 have hpbad:∀(k:Nat) (x:It×Value),xs[k]? =some x→ZP v.toNat x.1.f x.1.ps=none→ZaF v rev fl (xs.map (·.1)) sound=none:=fun k x hk hw=>by
  unfold ZaF;rw [if_neg hv,Zq5 hk hw,if_pos rfl]
 have hpok2:Zew v.toNat xs xs.length→∀(e:Ending) (w':World),Zar w ((prR v rev fl (Z0 v.toNat (xs.map (·.1)))).map (· ++sound)) e w'→Zar w (ZaF v rev fl (xs.map (·.1)) sound) e w':=fun h e w' hp=>by rw [hpok h];exact hp
 have hpbad2:∀(k:Nat) (x:It×Value),xs[k]? =some x→ZP v.toNat x.1.f x.1.ps=none→∀(e:Ending) (w':World),Zar w none e w'→Zar w (ZaF v rev fl (xs.map (·.1)) sound) e w':=fun k x hk hw e w' hp=>by rw [hpbad k x hk hw];exact hp
 clear hpok hpbad;generalize Zar w (ZaF v rev fl (xs.map (·.1)) sound)=P at*;generalize Z0 v.toNat (xs.map (·.1))=fs at*;have htp:∀wx A c B0,Zi frV B0 wx (.slice A fs.length c) fs→Calls Tryz.prog 26 #[.agg #[.int .i64 v,.int .u8 rev.toNat,.int .u8 fl.toNat,.slice A fs.length c]] wx (Zar wx (prR v rev fl fs)):=
  fun wx A c B0 h=>Zo2 v rev fl A c fs B0 wx h (by omega) (fun f hf=>Nat.le_trans (hid f hf) (by decide)) h9 hsum
 have hprl:∀s,prR v rev fl fs=some s→s.length≤1000000000:=fun s h=>by
  unfold prR at h;split at h
  · cases h
  · injection h with h;rw [←h];exact hpl
 have hwh:∀(k:Nat) (x:It×Value),xs[k]? =some x→∃A5 n5 c5,x.2= .slice A5 n5 c5∧∀wx,Below w.heap.size w wx→Calls Tryz.prog 25 #[.agg #[.string (B x.1.f.id),.int .u8 x.1.f.st.toNat,.int .u8 x.1.f.fm.toNat,.int .u8 x.1.f.grp.toNat,.string (B x.1.f.body),.int .i64 x.1.f.at_,.slice A5 n5 c5],.int .i64 v] wx (Zbm wx (ZP v.toNat x.1.f x.1.ps)):=fun k x hk=>by
  obtain⟨A5,c5,hs,hp⟩:=hsl x (List.mem_of_getElem? hk);obtain⟨q1,q2,q3⟩:=hsz x (List.mem_of_getElem? hk);exact⟨A5,_,c5,hs,fun wx hb=>ZnY v x.1.f q1 A5 c5 x.1.ps wx ((hp.below hb).more hb.size) q2 q3 (hG.below hb)⟩
 have hbn:=fun w=>ZT 0 0 rfl w;have hby:=fun(n a:Int) (hn:1≤n) wx=>Zaq n a (by omega) wx;have Hrow:=Lib.hid hr;have HW:=Lib.hid hwh;have HTP:=Lib.hid htp;have HAT:=Lib.hid hat;have HOK:=Lib.hid hpok2;have HBAD:=Lib.hid hpbad2;have HPL:=Lib.hid hprl;have HBY:=Lib.hid hby;have bx:Bx ((w.alloc (.cells T 59)).alloc (.cells #[.int .i64 0,.int .i64 0] 62)) w.heap.size T 59:=(Bx.new w _ _).alloc _;have c1:=bx.cell 1;have c2:=bx.cell 2;have c3:=bx.cell 3;have c4:=bx.cell 4;rw [h1] at c1;rw [h2] at c2;rw [h3] at c3;rw [h4] at c4;have e1:=Lib.hid h1;have e2:=Lib.hid h2;have e3:=Lib.hid h3;have e4:=Lib.hid h4;have e5:=Lib.hid h5;have ST0:=Lib.hid (PtSt.new w T #[.int .i64 v,.int .u8 rev.toNat,.int .u8 fl.toNat,.slice none 0 0]);clear hr hsl hwh htp hid h9 hsum hpl h1 h2 h3 h4 h5 bx hat hpok2 hpbad2 hprl hby hG hsz;go_enter Tryz.func14,Tryz.ntmps14
 go_upto_region 7 with fail
 clear c1 c2 c3 c4;generalize (((w.alloc _).alloc _).alloc _)=W0 at*;generalize w.heap.size+1+1=H at*;obtain⟨⟨c1,c2,c3,c4,c5⟩,⟨d0,d1,d2,d3,g3⟩,⟨r0,r1,r2,r3⟩,l1⟩:=ST0.out.cells e1.out e2.out e3.out e4.out e5.out;go_wp2_with fail
 go_loopw [42] (fun i wr=>ZjG w H T v rev fl fs (Zew v.toNat xs) i wr) (fun i _=>fs.length - (intOf i).toNat)
 case atStart=>exact⟨0,.slice none 0 0,Nat.zero_le _,rfl,ST0.out,Lib.hid ⟨rfl,.inl ⟨rfl,rfl⟩⟩,Lib.hid fun _=>rfl,Lib.hid fun j x hj=>absurd hj (Nat.not_lt_zero j)⟩
 case round=>
  obtain⟨k,vl,hk,rfl,hst,OW,NL,GD⟩:=hrel;obtain⟨A9,n9,c9,hv9⟩:=Zgr OW.out;have hn9:=Lib.hid (ZaL OW.out).1;have htk:(fs.take k).length≤100000:=by simp;omega
  have SR:=Lib.hid hst;subst hv9;clear hst c1 c2 c3 c4 c5 d0 d1 d2 d3 g3 r0 r1 r2 r3 l1;obtain⟨⟨c1,c2,c3,c4,c5⟩,⟨d0,d1,d2,d3,g3⟩,⟨r0,r1,r2,r3⟩,l1⟩:=SR.out.cells e1.out e2.out e3.out e4.out e5.out;by_cases hlt:k<fs.length
  · obtain⟨x,hx⟩:∃x,xs[k]? =some x:=⟨_,List.getElem?_eq_getElem (by omega)⟩
    obtain⟨ad,rfl,hadb,y0,y1,y2,y3,y4,y5,y6⟩:=((Hrow.out.below SR.out.low).more SR.out.low.size).it7 hx;obtain⟨A5,n5,c5',hs5,hwh⟩:=HW.out k x hx;have hkx:k<xs.length:=by omega
    have Hx:=Lib.hid hx;rw [hs5] at y6;clear hx hs5;rcases hwx:ZP v.toNat x.1.f x.1.ps with _|f
    · have HB:=Lib.hid (HBAD.out k x Hx.out hwx);rw [hwx] at hwh;unfold Zbm at hwh;clear hwx;generalize x.1.f.id=id at*;generalize x.1.f.body=body at*;go_upto_region 12 with(go_at_call 25;refine(hwh _ (SR.out.alloc _).low).mono ?_;clear hwh;rintro e w3 ⟨hb3,n,rfl,hn1⟩;have S3:=Lib.hid ((SR.out.alloc _).below hb3);have hn0:(n==0)=false:=(by rw [beq_eq_false_iff_ne];omega);have hn2:(n !=0)=true:=(by simp;omega);have HN1:=Lib.hid hn1;clear hn1 hb3 c1 c2 c3 c4 c5 d0 d1 d2 d3 g3 r0 r1 r2 r3 l1 y0 y1 y2 y3 y4 y5 y6)
      have S4:=Lib.hid (S3.out.alloc (.cells #[.string ⟨#[]⟩,.int .u8 0,.int .u8 0,.int .u8 0,.string ⟨#[]⟩,.int .i64 0] 34));clear S3;generalize (w3.alloc (.cells #[.string ⟨#[]⟩,.int .u8 0,.int .u8 0,.int .u8 0,.string ⟨#[]⟩,.int .i64 0] 34))=w4 at*;obtain⟨⟨c1,c2,c3,c4,c5⟩,⟨d0,d1,d2,d3,g3⟩,⟨r0,r1,r2,r3⟩,l1⟩:=S4.out.cells e1.out e2.out e3.out e4.out e5.out;go_wp2_with fail
      refine bodyPost_ret (ZaT rfl _ _ (w.heap.size+1) _ _ _ _ (.string ⟨#[]⟩) rfl rfl (Za9 S4.out.f (.int .i64 n) (.int .i64 k)) Tryz.underlying62 rfl (by kernel_rfl)) rfl (HB.out _ _ ⟨?_,n,k,rfl,HN1.out⟩);exact(S4.out.low.setCell (Nat.le_succ _) _).setCell (Nat.le_succ _) _
    · have Hf:=Lib.hid (HAT.out k x f Hx.out hwx);have HG1:=Lib.hid (Zq6 GD.out Hx.out hwx);rw [hwx] at hwh;unfold Zbm at hwh;clear hwx;generalize x.1.f.id=id at*;generalize x.1.f.body=body at*;go_upto_region 13 with(go_at_call 25;refine(hwh _ (SR.out.alloc _).low).mono ?_;clear hwh;rintro e w3 ⟨hb3,rfl⟩;have S3:=Lib.hid ((SR.out.alloc _).below hb3);have O3:=Lib.hid (ZE (OW.out.alloc _) hb3);clear hb3 c1 c2 c3 c4 c5 d0 d1 d2 d3 g3 r0 r1 r2 r3 l1 y0 y1 y2 y3 y4 y5 y6)
      have fb:=Bx.new w3 #[.string (B f.id),.int .u8 f.st.toNat,.int .u8 f.fm.toNat,.int .u8 f.grp.toNat,.string (B f.body),.int .i64 f.at_] 34;have S4:=Lib.hid (S3.out.alloc (.cells #[.string (B f.id),.int .u8 f.st.toNat,.int .u8 f.fm.toNat,.int .u8 f.grp.toNat,.string (B f.body),.int .i64 f.at_] 34));have O4:=Lib.hid (O3.out.alloc (.cells #[.string (B f.id),.int .u8 f.st.toNat,.int .u8 f.fm.toNat,.int .u8 f.grp.toNat,.string (B f.body),.int .i64 f.at_] 34));clear S3 O3;generalize (w3.alloc (.cells #[.string (B f.id),.int .u8 f.st.toNat,.int .u8 f.fm.toNat,.int .u8 f.grp.toNat,.string (B f.body),.int .i64 f.at_] 34))=w4 at*;generalize w3.heap.size=G at*;obtain⟨⟨y0,y1,y2,y3,y4,y5⟩,_,_⟩:=Zix fb;obtain⟨⟨c1,c2,c3,c4,c5⟩,⟨d0,d1,d2,d3,g3⟩,⟨r0,r1,r2,r3⟩,l1⟩:=S4.out.cells e1.out e2.out e3.out e4.out e5.out;go_wp2_with (at_builtin;refine ZjW rfl _ _ rfl (H+1) (.slice A9 n9 c9) (fs.take k) rfl w4 f O4.out (by omega) (by omega) rfl ?_;intro v6 w6 HO6 hb6;obtain⟨A6,n6,c6,hv6⟩:=Zgr HO6.out;subst hv6;have S6:=Lib.hid (S4.out.low3 hb6);have b6:=S6.out.h.cell 3;have f6:=S6.out.h.free 3)
      have NX:=Lib.hid (ZsI Hf.out S4.out HO6.out hb6 HG1.out);clear hb6 b6 f6;go_roundw
      case rel=>exact NX.out
      case measure=>simp [intOf];omega
  · have hkl:k=fs.length:=by omega
    subst hkl;have HB:=Lib.hid (HOK.out (by have:=GD.out;rwa [hfl] at this));have hn8:n9=fs.length:=by have:=hn9.out;rw [List.take_length] at this;exact this
    subst hn8;have ho:=OW.out;rw [List.take_length] at ho;have RR:=Lib.hid (Zi.of_own (f:=frV) rfl ho (fun h=>by have:=NL.out;rw [List.take_length] at this;exact this h));have htp:=HTP.out wr A9 c9 (H+1) RR.out;rw [hfl] at htp;have hbo:=HB.out;clear ho hn9 OW NL HB;rcases hpr:prR v rev fl fs with _|PT
    · rw [hpr] at htp hbo;have HB:=Lib.hid hbo;unfold Zar at htp;clear hpr hbo;go_wp2_with (first
       |(go_at_call 26;refine htp.mono ?_;clear htp;rintro e w5 ⟨hb5,n,a,rfl,hn1⟩;have S5:=Lib.hid (SR.out.below hb5);have HN1:=Lib.hid hn1;have hb8:=HBY.out n a hn1;clear hn1 hb5)
       |(go_at_call 7;refine(hb8 _).mono ?_;rintro e w6 ⟨rfl,hb6⟩;have hz5:=S5.out.h.lt;have hH5:=S5.out.hH;have S6:=Lib.hid ((S5.out.alloc _).below hb6);have C6:=Lib.hid ((Bx.new w5 #[.int .i64 n,.int .i64 a] 62).below hb6);clear hb6 hb8 c1 c2 c3 c4 c5 d0 d1 d2 d3 g3 r0 r1 r2 r3 l1;obtain⟨⟨c1,c2,c3,c4,c5⟩,⟨d0,d1,d2,d3,g3⟩,⟨r0,r1,r2,r3⟩,l1⟩:=S6.out.cells e1.out e2.out e3.out e4.out e5.out;have u0:=C6.out.cell 0;have u1:=C6.out.cell 1))
      go_region
      all_goals
       go_wp2_with fail
       refine bodyPost_ret (ZaT rfl _ _ (w.heap.size+1) _ _ _ _ (.string ⟨#[]⟩) rfl rfl (Za9 S6.out.f (.int .i64 n) (.int .i64 a)).drew Tryz.underlying62 rfl (by kernel_rfl)) rfl (HB.out _ _ ⟨?_,n,a,rfl,HN1.out⟩);exact Za8 ((S6.out.low.setCell (Nat.le_succ _) _).setCell (Nat.le_succ _) _)
    · rw [hpr] at htp hbo;have HB:=Lib.hid hbo;clear hbo;have hPTl:=HPL.out PT hpr;unfold Zar at htp;clear hpr;have hjn:∀wx:World,Calls Tryz.prog 27 #[.slice (some ⟨wx.heap.size,0,none⟩) 2 2] (wx.alloc (.cells #[.string (B PT),.string (B sound)] 9)) fun e w'=>e= .returned (.string (B (PT++sound)))∧Below (wx.alloc (.cells #[.string (B PT),.string (B sound)] 9)).heap.size (wx.alloc (.cells #[.string (B PT),.string (B sound)] 9)) w':=fun wx=>by
       have h:=Zg2 [PT,sound] (by simp) (by simp;omega) (by simp) wx;rw [show [PT,sound].flatten=PT++sound by simp] at h;exact h
      have hsz:=Zl PT;go_wp2_with (first
       |(go_at_call 26;refine htp.mono ?_;clear htp;rintro e w5 ⟨hb5,rfl⟩;have S5:=Lib.hid (SR.out.below hb5);clear hb5)
       |(go_at_call 7;refine(hbn _).mono ?_;rintro e w6 ⟨rfl,hb6⟩;have S6:=Lib.hid ((S5.out.alloc _).below hb6);clear hb6 c1 c2 c3 c4 c5 d0 d1 d2 d3 g3 r0 r1 r2 r3 l1;obtain⟨⟨c1,c2,c3,c4,c5⟩,⟨d0,d1,d2,d3,g3⟩,⟨r0,r1,r2,r3⟩,l1⟩:=S6.out.cells e1.out e2.out e3.out e4.out e5.out)
       |(go_at_call 27;refine(hjn _).mono ?_;clear hjn;rintro e w7 ⟨rfl,hb7⟩;have S7:=Lib.hid ((S6.out.alloc _).below hb7);clear hb7 c1 c2 c3 c4 c5 d0 d1 d2 d3 g3 r0 r1 r2 r3 l1;obtain⟨⟨c1,c2,c3,c4,c5⟩,⟨d0,d1,d2,d3,g3⟩,⟨r0,r1,r2,r3⟩,l1⟩:=S7.out.cells e1.out e2.out e3.out e4.out e5.out))
      refine bodyPost_ret (ZaT rfl _ _ (w.heap.size+1) _ _ _ _ (.string (B (PT++sound))) rfl rfl (Za9 S7.out.f (.int .i64 0) (.int .i64 0)) Tryz.underlying62 rfl (by kernel_rfl)) rfl (HB.out _ _ ⟨?_,rfl⟩);exact(S7.out.low.setCell (Nat.le_succ _) _).setCell (Nat.le_succ _) _
end Go.Proofs.YtecandjkbbpooaaGreatDoor
