/- Lemmas for a statement on the tops; conditions: as each says. -/
import Derived.Test.YtlglfmbccihopaaGreatDoorM30
set_option linter.unusedVariables false
set_option linter.unusedSimpArgs false
set_option maxRecDepth 100000
set_option maxHeartbeats 4000000
namespace Go.Proofs.YtlglfmbccihopaaGreatDoor
open Go Go.RowKit
def RdN {α:Type} (m:Nat)(f:α→List Value)(w:World)(B:Nat)(A:Option Addr)(l:List α):Prop:=Reads w B m A l.length (l.flatMap f)
section
variable {α:Type} {m:Nat} {f:α→List Value} {w w':World} {B0 B1:Nat} {A:Option Addr} {l:List α}
theorem RdN.below (h:RdN m f w B0 A l)(hb:Below B0 w w'):RdN m f w' B0 A l:=Reads.below h hb
theorem RdN.more (h:RdN m f w B0 A l)(hb:B0≤B1):RdN m f w B1 A l:=Reads.more h hb
theorem RdN.at_ (hf:∀x,(f x).length=m)(h:RdN m f w B0 A l){k:Nat} {x:α} (hk:l[k]? =some x):
 ∃ad,A=some ad∧ad.block<B0∧∀j u,j<m→(f x)[j]? =some u→w.cell? (ad.add (k*m+j))=some u:=by
 have hlt:k<l.length:=(List.getElem?_eq_some_iff.1 hk).1;obtain⟨ad,hA,hb,hc⟩:=h.2 (by omega);exact⟨ad,hA,hb,fun j u hj hu=>hc _ _ ((Zel m f hf l k j x hk hj).trans hu)⟩
theorem RdN.of_rows (hf:∀x,(f x).length=m){v:Value} (h:Zg f B0 w v l):∃A c,v= .slice A l.length c∧RdN m f w w.heap.size A l:=by
 rcases h with⟨rfl,rfl⟩|⟨bk,c,h0,rfl,h2,h5,h3,h4⟩
 · exact⟨none,0,rfl,Reads.none_⟩
 · refine⟨_,c,rfl,Zfv m f hf l,fun _=>⟨_,rfl,h3,fun j u hu=> ?_⟩⟩;have hadd:(⟨bk,0,none⟩:Addr).add j=⟨bk,j,none⟩:=by unfold Addr.add;split<;>simp_all
   rw [hadd];exact h4 j u hu
end
theorem RdN.note {w:World} {B0:Nat} {A:Option Addr} {l:List Nx} (h:RdN 3 nxV w B0 A l){k:Nat} {x:Nx} (hk:l[k]? =some x):
 ∃ad,A=some ad∧ad.block<B0∧w.cell? (ad.add (k*3))=some (.string (B x.name))∧w.cell? ⟨(ad.add (k*3)).block,(ad.add (k*3)).off+1,none⟩=some (.string (B x.text))∧
  w.cell? ⟨(ad.add (k*3)).block,(ad.add (k*3)).off+2,none⟩=some (.int .i64 x.set):=by
 obtain⟨ad,hA,hb,hg⟩:=h.at_ ZdO hk;have g0:=hg 0 _ (by omega) rfl;have g1:=hg 1 _ (by omega) rfl;have g2:=hg 2 _ (by omega) rfl;rw [Nat.add_zero] at g0;rw [Zed _ _ _ (by omega)] at g1 g2;exact⟨ad,hA,hb,g0,g1,g2⟩
theorem RdN.meta {w:World} {B0:Nat} {A:Option Addr} {l:List Mx} (h:RdN 2 mxV w B0 A l){k:Nat} {x:Mx} (hk:l[k]? =some x):
 ∃ad,A=some ad∧ad.block<B0∧w.cell? (ad.add (k*2))=some (.int .u8 x.kind.toNat)∧w.cell? ⟨(ad.add (k*2)).block,(ad.add (k*2)).off+1,none⟩=some (.string (B x.body)):=by
 obtain⟨ad,hA,hb,hg⟩:=h.at_ Zet hk;have g0:=hg 0 _ (by omega) rfl;have g1:=hg 1 _ (by omega) rfl;rw [Nat.add_zero] at g0;rw [Zed _ _ _ (by omega)] at g1;exact⟨ad,hA,hb,g0,g1⟩
theorem Bx.dn {w:World} {g:Nat} {cs:Array Value} {T:TypeId} (h:Bx w g cs T)(n:Nat):Bx (w.drewN n) g cs T:=h
def CkV (w:World)(ok:Bool)(e:Ending)(w':World):Prop:=∃n a:Int,e= .returned (.agg #[.int .i64 n,.int .i64 a])∧(if ok then n=0∧a=0 else 1≤n)∧Below w.heap.size w w'
structure CcSt (w0 wx:World)(v:List UInt8)(vs:Int)(sl:Value):Prop where
 bb:Bx wx w0.heap.size #[.string (B v),.int .i64 vs,sl] 28
 res:Bx wx (w0.heap.size+1) #[.int .i64 0,.int .i64 0] 39
 low:Below w0.heap.size w0 wx
section
variable {w0 w w':World} {v:List UInt8} {vs:Int} {sl:Value}
theorem CcSt.below (h:CcSt w0 w v vs sl)(hb:Below w.heap.size w w'):CcSt w0 w' v vs sl:=⟨h.bb.below hb,h.res.below hb,h.low.trans (hb.mono h.low.size)⟩
theorem CcSt.alloc (h:CcSt w0 w v vs sl)(o:Obj):CcSt w0 (w.alloc o) v vs sl:=h.below ((Below.refl _ _).alloc (Nat.le_refl _) _)
theorem CcSt.drewN (h:CcSt w0 w v vs sl)(n:Nat):CcSt w0 (w.drewN n) v vs sl:=h.below (below_drewN (Below.refl _ _) n)
theorem CcSt.low2 (h:CcSt w0 w v vs sl)(hb:Below (w0.heap.size+2) w w'):CcSt w0 w' v vs sl:=⟨h.bb.same6 hb (by omega),h.res.same6 hb (by omega),h.low.trans (hb.mono (by omega))⟩
theorem CcSt.cells (h:CcSt w0 w v vs sl):(w.cell? ⟨w0.heap.size,0,none⟩=some (.string (B v))∧w.cell? ⟨w0.heap.size,1,none⟩=some (.int .i64 vs)∧w.cell? ⟨w0.heap.size,2,none⟩=some sl)∧
 (w.cell? ⟨w0.heap.size+1,0,none⟩=some (.int .i64 0)∧w.cell? ⟨w0.heap.size+1,1,none⟩=some (.int .i64 0))∧(∀j,w.frozen? ⟨w0.heap.size+1,j,none⟩=false)∧w0.heap.size<w.heap.size∧w0.heap.size+1<w.heap.size:=
 ⟨⟨h.bb.cell 0,h.bb.cell 1,h.bb.cell 2⟩,⟨h.res.cell 0,h.res.cell 1⟩,h.res.free,h.bb.lt,h.res.lt⟩
theorem CcSt.fin (h:CcSt w0 w v vs sl)(x y:Value):Bx ((w.setCell ⟨w0.heap.size+1,0,none⟩ x).setCell ⟨w0.heap.size+1,1,none⟩ y) (w0.heap.size+1) #[x,y] 39∧Below w0.heap.size w0 ((w.setCell ⟨w0.heap.size+1,0,none⟩ x).setCell ⟨w0.heap.size+1,1,none⟩ y):=
 ⟨Zcn h.res x y,(h.low.setCell (p:=⟨w0.heap.size+1,0,none⟩) (Nat.le_succ _) x).setCell (p:=⟨w0.heap.size+1,1,none⟩) (Nat.le_succ _) y⟩
theorem CcSt.mk0 (w:World)(v:List UInt8)(vs:Int)(sl:Value):CcSt w ((w.alloc (.cells #[.string (B v),.int .i64 vs,sl] 28)).alloc (.cells #[.int .i64 0,.int .i64 0] 39)) v vs sl:=
 ⟨(Bx.new w _ _).alloc _,by have:=Bx.new (w.alloc (.cells #[.string (B v),.int .i64 vs,sl] 28)) #[.int .i64 0,.int .i64 0] 39;rw [World.size_alloc] at this;exact this,((Below.refl _ _).alloc (Nat.le_refl _) _).alloc (by simp) _⟩
end
def CcRel (w0:World)(v:List UInt8)(vs:Int)(sl:Value)(ns:List Nx)(i:Value)(wx:World):Prop:=∃k:Nat,k≤ns.length∧k≤4096∧i= .int .i64 k∧CcSt w0 wx v vs sl∧∀n∈ns.take k,ZcM n=true
theorem ZiO (v:List UInt8)(vs:Int)(A:Option Addr)(c:Nat)(ns:List Nx)(hv:v.length≤100000)(hn:∀n∈ns,n.name.length≤100000∧n.text.length≤100000)(w:World)(hG:Grd w)(h:RdN 3 nxV w w.heap.size A ns):
 Calls Tryz.prog 31 #[.agg #[.string (B v),.int .i64 vs,.slice A ns.length c]] w (CkV w (ckC v ns)):=by
 have HPt:Hid (ckC v ns=true→∀w',Below w.heap.size w w'→CkV w (ckC v ns) (.returned (.agg #[.int .i64 0,.int .i64 0])) w'):=Lib.hid fun h w' hb=>⟨0,0,rfl,by rw [h];exact⟨rfl,rfl⟩,hb⟩
 have HPf:Hid (ckC v ns=false→∀(n a:Int) w',1≤n→Below w.heap.size w w'→CkV w (ckC v ns) (.returned (.agg #[.int .i64 n,.int .i64 a])) w'):=Lib.hid fun h n a w' h1 hb=>⟨n,a,rfl,by rw [h];exact h1,hb⟩
 generalize CkV w (ckC v ns)=P at*;have ST0:=Lib.hid (CcSt.mk0 w v vs (.slice A ns.length c));have hva:=fun w hT=>ZgJ v hv w hT;have GR:=Lib.hid hG;have HR:=Lib.hid h;have HN:=Lib.hid hn;clear hG h hn;obtain⟨⟨c0,c1,c2⟩,⟨r0,r1⟩,rf,l1,l2⟩:=ST0.out.cells;cases hu:Zcf v with
 |false=>
  rw [hu] at hva;have HC:Hid (ckC v ns=false):=Lib.hid (by unfold ckC;rw [hu];rfl);clear hu;go_enter Tryz.func31,Tryz.ntmps31
  go_wp2_with (go_at_call 72;refine(hva _ (GR.out.below ST0.out.low).tabs).mono ?_;rintro e w1 ⟨rfl,hb1⟩;have ST1:=Lib.hid (ST0.out.below hb1);clear hb1 c0 c1 c2 r0 r1 rf l1 l2;obtain⟨⟨c0,c1,c2⟩,⟨r0,r1⟩,rf,l1,l2⟩:=ST1.out.cells)
  have F:=ST1.out.fin (.int .i64 2) (.int .i64 0);refine bodyPost_ret (results_cell_row rfl _ _ (w.heap.size+1) _ _ _ _ rfl F.1 Tryz.underlying39 rfl (by kernel_rfl)) rfl ?_;exact HPf.out HC.out 2 0 _ (by omega) F.2
 |true=>
  rw [hu] at hva;have HU:=Lib.hid hu;clear hu;go_enter Tryz.func31,Tryz.ntmps31
  go_wp2_with (go_at_call 72;refine(hva _ (GR.out.below ST0.out.low).tabs).mono ?_;rintro e w1 ⟨rfl,hb1⟩;have ST1:=Lib.hid (ST0.out.below hb1);clear hb1 c0 c1 c2 r0 r1 rf l1 l2;obtain⟨⟨c0,c1,c2⟩,⟨r0,r1⟩,rf,l1,l2⟩:=ST1.out.cells)
  go_loopw [14] (fun i wx=>CcRel w v vs (.slice A ns.length c) ns i wx) (fun i _=>ns.length - (intOf i).toNat)
  case atStart=>exact⟨0,Nat.zero_le _,Nat.zero_le _,rfl,ST1.out,by simp⟩
  case round=>
   obtain⟨k,hk,hk4,rfl,hst,hno⟩:=hrel;have ST:=Lib.hid hst;have HO:=Lib.hid hno;clear hst hno c0 c1 c2 r0 r1 rf l1 l2;obtain⟨⟨c0,c1,c2⟩,⟨r0,r1⟩,rf,l1,l2⟩:=ST.out.cells;by_cases hlt:k<ns.length
   · obtain⟨n,hk1⟩:∃n,ns[k]? =some n:=⟨_,List.getElem?_eq_getElem hlt⟩
     have hnl:=HN.out n (List.mem_of_getElem? hk1);obtain⟨ad,rfl,hadb,y0,y1,y2⟩:=(HR.out.below ST.out.low).note hk1;have hnm:=fun w=>ZnI n.name (by omega) w;have hvt:=fun w hT=>ZgJ n.text hnl.2 w hT;have HK1:=Lib.hid hk1;have hbl:ad.block<wr.heap.size:=Nat.lt_of_lt_of_le hadb ST.out.low.size;clear hk1 hnl;by_cases h4:k=4096
     · have h4b:4096≤(k:Int):=by omega
       have hwr:IntKind.i64.wrap ((k:Int)+1)=(k:Int)+1:=by rw [IntKind.wrap_i64];omega
       have HC:Hid (ckC v ns=false):=Lib.hid (by unfold ckC;rw [decide_eq_false (show¬ns.length≤4096 by omega),Bool.and_false,Bool.and_false]);clear h4;have STa:=ST.out.alloc (.cells #[.string (B n.name),.string (B n.text),.int .i64 n.set] 93);have qc0:=STa.res.cell 0;have qc1:=STa.res.cell 1;have qf0:=STa.res.free 0;have qf1:=STa.res.free 1;clear STa;go_wp2_with fail
       have F0:=ST.out.fin (.int .i64 4) (.int .i64 ((k:Int)+1));have F:=And.intro (F0.1.alloc (.cells #[.string (B n.name),.string (B n.text),.int .i64 n.set] 93)) (F0.2.alloc F0.2.size (.cells #[.string (B n.name),.string (B n.text),.int .i64 n.set] 93));refine bodyPost_ret (results_cell_row rfl _ _ (w.heap.size+1) _ _ _ _ rfl F.1 Tryz.underlying39 rfl (by kernel_rfl)) rfl ?_;exact HPf.out HC.out 4 _ _ (by omega) F.2
     · have h4':¬4096≤(k:Int):=by omega
       cases hnk:ZcM n with
       |false=>
        have HC:Hid (ckC v ns=false):=Lib.hid (by
         have:ns.all ZcM=false:=by
          rw [List.all_eq_false];exact⟨n,List.mem_of_getElem? HK1.out,by rw [hnk];decide⟩
         unfold ckC;rw [this,Bool.false_and,Bool.and_false])
        have hwr:IntKind.i64.wrap ((k:Int)+1)=(k:Int)+1:=by rw [IntKind.wrap_i64];omega
        unfold ZcM at hnk;change∀w,Calls Tryz.prog 73 #[.string (B n.name)] w fun e w'=>e= .returned (.bool (Zeu n.name))∧Below w.heap.size w w' at hnm
        generalize Zeu n.name=nb at*;cases nb with
        |false=>
         clear hnk hvt;go_wp2_with (go_at_call 73;refine(hnm _).mono ?_;rintro e w2 ⟨rfl,hb2⟩;have ST2:=Lib.hid ((ST.out.alloc _).below hb2);clear hb2 c0 c1 c2 r0 r1 rf l1 l2;obtain⟨⟨c0,c1,c2⟩,⟨r0,r1⟩,rf,l1,l2⟩:=ST2.out.cells)
         have F:=ST2.out.fin (.int .i64 5) (.int .i64 ((k:Int)+1));refine bodyPost_ret (results_cell_row rfl _ _ (w.heap.size+1) _ _ _ _ rfl F.1 Tryz.underlying39 rfl (by kernel_rfl)) rfl ?_;exact HPf.out HC.out 5 _ _ (by omega) F.2
        |true=>
         rw [Bool.true_and] at hnk;rw [hnk] at hvt;clear hnk;go_wp2_with (first
          |(go_at_call 73;refine(hnm _).mono ?_;rintro e w2 ⟨rfl,hb2⟩;have NB:=Lib.hid ((Bx.new wr #[.string (B n.name),.string (B n.text),.int .i64 n.set] 93).below hb2);have z1:=NB.out.cell 1;have ST2:=Lib.hid ((ST.out.alloc _).below hb2);clear hb2 c0 c1 c2 r0 r1 rf l1 l2)
          |(go_at_call 72;refine(hvt _ (GR.out.below ST2.out.low).tabs).mono ?_;rintro e w3 ⟨rfl,hb3⟩;have ST3:=Lib.hid (ST2.out.below hb3);clear hb3;obtain⟨⟨c0,c1,c2⟩,⟨r0,r1⟩,rf,l1,l2⟩:=ST3.out.cells))
         have F:=ST3.out.fin (.int .i64 2) (.int .i64 ((k:Int)+1));refine bodyPost_ret (results_cell_row rfl _ _ (w.heap.size+1) _ _ _ _ rfl F.1 Tryz.underlying39 rfl (by kernel_rfl)) rfl ?_;exact HPf.out HC.out 2 _ _ (by omega) F.2
       |true=>
        have HNK:=Lib.hid hnk;unfold ZcM at hnk;rw [Bool.and_eq_true] at hnk;change∀w,Calls Tryz.prog 73 #[.string (B n.name)] w fun e w'=>e= .returned (.bool (Zeu n.name))∧Below w.heap.size w w' at hnm
        rw [hnk.1] at hnm;rw [hnk.2] at hvt;clear hnk;go_wp2_with (first
         |(go_at_call 73;refine(hnm _).mono ?_;rintro e w2 ⟨rfl,hb2⟩;have NB:=Lib.hid ((Bx.new wr #[.string (B n.name),.string (B n.text),.int .i64 n.set] 93).below hb2);have z1:=NB.out.cell 1;have ST2:=Lib.hid ((ST.out.alloc _).below hb2);clear hb2 c0 c1 c2 r0 r1 rf l1 l2)
         |(go_at_call 72;refine(hvt _ (GR.out.below ST2.out.low).tabs).mono ?_;rintro e w3 ⟨rfl,hb3⟩;have ST3:=Lib.hid (ST2.out.below hb3);clear hb3))
        go_roundw
        case rel=>exact⟨k+1,by omega,by omega,by go_num,ST3.out,fun q hq=>by
         rw [ZdW HK1.out] at hq;rcases List.mem_append.1 hq with hq|hq
         · exact HO.out q hq
         · simp only [List.mem_singleton] at hq;subst hq;exact HNK.out⟩
        case measure=>simp [intOf];omega
   · obtain rfl:k=ns.length:=by omega
     have HC:Hid (ckC v ns=true):=Lib.hid (by
      unfold ckC;rw [HU.out,decide_eq_true hk4,Bool.and_true,Bool.true_and,List.all_eq_true];have:=HO.out;rw [List.take_length] at this;exact this)
     go_wp2_with fail
     have F:=ST.out.fin (.int .i64 0) (.int .i64 0);refine bodyPost_ret (results_cell_row rfl _ _ (w.heap.size+1) _ _ _ _ rfl F.1 Tryz.underlying39 rfl (by kernel_rfl)) rfl ?_;exact HPt.out HC.out _ F.2
theorem Zi0 (n:Nat)(m:Mx)(noted:Bool)(w:World):
 Calls Tryz.prog 30 #[.int .i64 n,.agg #[.int .u8 m.kind.toNat,.string (B m.body)],.bool noted] w fun e w'=>e= .returned (.bool (Zam n m.kind.toNat m.body.length noted))∧Below w.heap.size w w':=by
 have HP:Hid (∀(b:Bool) w',b=Zam n m.kind.toNat m.body.length noted→Below w.heap.size w w'→(fun(e:Ending) (w':World)=>e=Ending.returned (.bool (Zam n m.kind.toNat m.body.length noted))∧Below w.heap.size w w') (.returned (.bool b)) w'):=Lib.hid fun b w' hb h=>⟨by rw [hb],h⟩
 generalize (fun(e:Ending) (w':World)=>e=Ending.returned (.bool (Zam n m.kind.toNat m.body.length noted))∧Below w.heap.size w w')=P at*;have hkl:=m.kind.toNat_lt;have hsz:=Zt m.body;have HB:=Lib.hid ((Below.refl _ w).alloc (Nat.le_refl _) (.cells #[.int .u8 m.kind.toNat,.string (B m.body)] 72));generalize m.kind.toNat=K at*;generalize m.body.length=L at*;have HS:Hid (Zam n K L noted=if n=0 then K==0&&L==34 else !(K==0)&&decide (K≤126)&&(!(K==4)|| !noted)):=Lib.hid rfl;generalize Zam n K L noted=R at*;by_cases h0:n=0
 · have q0:((n:Int)==0)=true:=by first|(rw [beq_iff_eq];omega)|(rw [beq_eq_false_iff_ne];omega)
   by_cases hk0:K=0
   · by_cases hl:L=34
     · have q1:((K:Int)==0)=true:=by first|(rw [beq_iff_eq];omega)|(rw [beq_eq_false_iff_ne];omega)
       have q2:((L:Int)==34)=true:=by first|(rw [beq_iff_eq];omega)|(rw [beq_eq_false_iff_ne];omega)
       have HQ:Hid (R=true):=Lib.hid (by rw [HS.out];first|(simp_all;done)|(simp_all;intro _;omega));clear HS h0 hk0 hl;go_enter Tryz.func30,Tryz.ntmps30
       go_wp2_with fail
       exact HP.out true _ HQ.out.symm HB.out
     · have q1:((K:Int)==0)=true:=by first|(rw [beq_iff_eq];omega)|(rw [beq_eq_false_iff_ne];omega)
       have q2:((L:Int)==34)=false:=by first|(rw [beq_iff_eq];omega)|(rw [beq_eq_false_iff_ne];omega)
       have HQ:Hid (R=false):=Lib.hid (by rw [HS.out];first|(simp_all;done)|(simp_all;intro _;omega));clear HS h0 hk0 hl;go_enter Tryz.func30,Tryz.ntmps30
       go_wp2_with fail
       exact HP.out false _ HQ.out.symm HB.out
   · have q1:((K:Int)==0)=false:=by first|(rw [beq_iff_eq];omega)|(rw [beq_eq_false_iff_ne];omega)
     have HQ:Hid (R=false):=Lib.hid (by rw [HS.out];first|(simp_all;done)|(simp_all;intro _;omega));clear HS h0 hk0;go_enter Tryz.func30,Tryz.ntmps30
     go_wp2_with fail
     exact HP.out false _ HQ.out.symm HB.out
 · have q0:((n:Int)==0)=false:=by first|(rw [beq_iff_eq];omega)|(rw [beq_eq_false_iff_ne];omega)
   by_cases hk0:K=0
   · have q1:((K:Int)==0)=true:=by first|(rw [beq_iff_eq];omega)|(rw [beq_eq_false_iff_ne];omega)
     have HQ:Hid (R=false):=Lib.hid (by rw [HS.out];first|(simp_all;done)|(simp_all;intro _;omega));clear HS h0 hk0;go_enter Tryz.func30,Tryz.ntmps30
     go_wp2_with fail
     exact HP.out false _ HQ.out.symm HB.out
   · have q1:((K:Int)==0)=false:=by first|(rw [beq_iff_eq];omega)|(rw [beq_eq_false_iff_ne];omega)
     by_cases hk1:K≤126
     · have q2:¬126<(K:Int):=by omega
       by_cases hk4:K=4
       · have q3:((K:Int) !=4)=false:=by rw [bne_eq_false_iff_eq];omega
         cases noted with
         |true=>
          have HQ:Hid (R=false):=Lib.hid (by rw [HS.out];first|(simp_all;done)|(simp_all;intro _;omega));clear HS h0 hk0 hk1 hk4;go_enter Tryz.func30,Tryz.ntmps30
          go_wp2_with fail
          exact HP.out false _ HQ.out.symm HB.out
         |false=>
          have HQ:Hid (R=true):=Lib.hid (by rw [HS.out];first|(simp_all;done)|(simp_all;intro _;omega));clear HS h0 hk0 hk1 hk4;go_enter Tryz.func30,Tryz.ntmps30
          go_wp2_with fail
          exact HP.out true _ HQ.out.symm HB.out
       · have q3:((K:Int) !=4)=true:=by rw [bne_iff_ne];omega
         have HQ:Hid (R=true):=Lib.hid (by rw [HS.out];first|(simp_all;done)|(simp_all;intro _;omega));clear HS h0 hk0 hk1 hk4;go_enter Tryz.func30,Tryz.ntmps30
         go_wp2_with fail
         exact HP.out true _ HQ.out.symm HB.out
     · have q2:126<(K:Int):=by omega
       have HQ:Hid (R=false):=Lib.hid (by rw [HS.out];first|(simp_all;done)|(simp_all;intro _;omega));clear HS h0 hk0 hk1;go_enter Tryz.func30,Tryz.ntmps30
       go_wp2_with fail
       exact HP.out false _ HQ.out.symm HB.out
structure FkSt (w0 wx:World)(FA:Array Value):Prop where
 fl:Bx wx w0.heap.size FA 30
 res:Bx wx (w0.heap.size+1) #[.int .i64 0,.int .i64 0] 39
 low:Below w0.heap.size w0 wx
section
variable {w0 w w':World} {FA:Array Value}
theorem FkSt.below (h:FkSt w0 w FA)(hb:Below w.heap.size w w'):FkSt w0 w' FA:=⟨h.fl.below hb,h.res.below hb,h.low.trans (hb.mono h.low.size)⟩
theorem FkSt.alloc (h:FkSt w0 w FA)(o:Obj):FkSt w0 (w.alloc o) FA:=h.below ((Below.refl _ _).alloc (Nat.le_refl _) _)
theorem FkSt.low2 (h:FkSt w0 w FA)(hb:Below (w0.heap.size+2) w w'):FkSt w0 w' FA:=⟨h.fl.same6 hb (by omega),h.res.same6 hb (by omega),h.low.trans (hb.mono (by omega))⟩
theorem FkSt.cells {a b c d f g:Value} (h:FkSt w0 w #[a,b,c,d,f,g]):(w.cell? ⟨w0.heap.size,0,none⟩=some a∧w.cell? ⟨w0.heap.size,1,none⟩=some b∧w.cell? ⟨w0.heap.size,2,none⟩=some c∧w.cell? ⟨w0.heap.size,3,none⟩=some d∧w.cell? ⟨w0.heap.size,4,none⟩=some f∧w.cell? ⟨w0.heap.size,5,none⟩=some g)∧
 (w.cell? ⟨w0.heap.size+1,0,none⟩=some (.int .i64 0)∧w.cell? ⟨w0.heap.size+1,1,none⟩=some (.int .i64 0))∧(∀j,w.frozen? ⟨w0.heap.size+1,j,none⟩=false)∧w0.heap.size<w.heap.size∧w0.heap.size+1<w.heap.size:=
 ⟨⟨h.fl.cell 0,h.fl.cell 1,h.fl.cell 2,h.fl.cell 3,h.fl.cell 4,h.fl.cell 5⟩,⟨h.res.cell 0,h.res.cell 1⟩,h.res.free,h.fl.lt,h.res.lt⟩
theorem FkSt.fin (h:FkSt w0 w FA)(x y:Value):Bx ((w.setCell ⟨w0.heap.size+1,0,none⟩ x).setCell ⟨w0.heap.size+1,1,none⟩ y) (w0.heap.size+1) #[x,y] 39∧Below w0.heap.size w0 ((w.setCell ⟨w0.heap.size+1,0,none⟩ x).setCell ⟨w0.heap.size+1,1,none⟩ y):=
 ⟨Zcn h.res x y,(h.low.setCell (p:=⟨w0.heap.size+1,0,none⟩) (Nat.le_succ _) x).setCell (p:=⟨w0.heap.size+1,1,none⟩) (Nat.le_succ _) y⟩
theorem FkSt.mk0 (w:World)(FA:Array Value):FkSt w ((w.alloc (.cells FA 30)).alloc (.cells #[.int .i64 0,.int .i64 0] 39)) FA:=
 ⟨(Bx.new w _ _).alloc _,by have:=Bx.new (w.alloc (.cells FA 30)) #[.int .i64 0,.int .i64 0] 39;rw [World.size_alloc] at this;exact this,((Below.refl _ _).alloc (Nat.le_refl _) _).alloc (by simp) _⟩
end
def flV (sl:Value)(v:List UInt8)(vs:Int)(sn:Value)(at_:Int)(sound:List UInt8):Array Value:=#[sl,.string (B v),.int .i64 vs,sn,.int .i64 at_,.string (B sound)]
def Zhk (at_:Int)(n:Nat)(v:List UInt8):Option Bool→Bool
 |none=>false
 |some noted=>noted|| !(decide (0≤at_)||(decide (0<n)|| !v.isEmpty))
theorem ZpZ (ms:List Mx)(v:List UInt8)(ns:List Nx)(at_:Int):ZY ms v ns at_=(!ms.isEmpty&&Zhk at_ ns.length v (ckM at_ (ckC v ns) 0 false ms)):=by
 unfold ZY Zhk;rfl
def FkRel (w0:World)(FA:Array Value)(ms:List Mx)(at_:Int)(okb:Bool)(M0:Option Bool)(b i:Value)(wx:World):Prop:=∃(k:Nat) (nt:Bool),k≤ms.length∧k≤4096∧i= .int .i64 k∧b= .bool nt∧FkSt w0 wx FA∧M0=ckM at_ okb k nt (ms.drop k)
theorem Zj7 (at_:Int)(okb:Bool)(n:Nat)(nt:Bool)(m:Mx)(r:List Mx):ckM at_ okb n nt (m::r)=
 if 4096≤n then none else if Zam n m.kind.toNat m.body.length nt=false then none else if m.kind≠4 then ckM at_ okb (n+1) nt r else if m.body≠[]∨at_≠n then none else if okb=false then none else ckM at_ okb (n+1) true r:=by
 conv=>lhs;unfold ckM
theorem Zoa (ms:List Mx)(v:List UInt8)(vs:Int)(ns:List Nx)(at_:Int)(sound:List UInt8)(A AN:Option Addr)(c cN:Nat)(hv:v.length≤100000)(hn:∀n∈ns,n.name.length≤100000∧n.text.length≤100000)(w:World)(hG:Grd w)(h:RdN 2 mxV w w.heap.size A ms)(h2:RdN 3 nxV w w.heap.size AN ns):
 Calls Tryz.prog 17 #[.agg (flV (.slice A ms.length c) v vs (.slice AN ns.length cN) at_ sound)] w (CkV w (ZY ms v ns at_)):=by
 have HPt:Hid (ZY ms v ns at_=true→∀w',Below w.heap.size w w'→CkV w (ZY ms v ns at_) (.returned (.agg #[.int .i64 0,.int .i64 0])) w'):=Lib.hid fun h w' hb=>⟨0,0,rfl,by rw [h];exact⟨rfl,rfl⟩,hb⟩
 have HPf:Hid (ZY ms v ns at_=false→∀(n a:Int) w',1≤n→Below w.heap.size w w'→CkV w (ZY ms v ns at_) (.returned (.agg #[.int .i64 n,.int .i64 a])) w'):=Lib.hid fun h n a w' h1 hb=>⟨n,a,rfl,by rw [h];exact h1,hb⟩
 generalize CkV w (ZY ms v ns at_)=P at*;have HCF:=Lib.hid (ZpZ ms v ns at_);generalize ZY ms v ns at_=R at*;have hck:∀wx,Below w.heap.size w wx→Calls Tryz.prog 31 #[.agg #[.string (B v),.int .i64 vs,.slice AN ns.length cN]] wx (CkV wx (ckC v ns)):=fun wx hb=>ZiO v vs AN cN ns hv hn wx (hG.below hb) ((h2.below hb).more hb.size);generalize hokb:ckC v ns=okb at*;have ST0:=Lib.hid (FkSt.mk0 w (flV (.slice A ms.length c) v vs (.slice AN ns.length cN) at_ sound));have HR:=Lib.hid h;have hsv:=Zt v;have hve:((B v).toList==[])=v.isEmpty:=by rw [Zb5];cases v<;>rfl
 clear h hG h2 hn hokb;unfold flV at*;obtain⟨⟨c0,c1,c2,c3,c4,c5⟩,⟨r0,r1⟩,rf,l1,l2⟩:=ST0.out.cells;by_cases hne:ms.length=0
 · have HQ:Hid (R=false):=Lib.hid (by rw [HCF.out,List.length_eq_zero_iff.1 hne];rfl);have q0:((ms.length:Int)==0)=true:=by rw [hne];rfl
   clear hne HCF;go_enter Tryz.func17,Tryz.ntmps17
   go_wp2_with fail
   have F1:=Bx.new (w.alloc (.cells #[.slice A ms.length c,.string (B v),.int .i64 vs,.slice AN ns.length cN,.int .i64 at_,.string (B sound)] 30)) #[.int .i64 5,.int .i64 0] 39;rw [World.size_alloc] at F1;have F:=And.intro F1 (((Below.refl _ w).alloc (Nat.le_refl _) (.cells #[.slice A ms.length c,.string (B v),.int .i64 vs,.slice AN ns.length cN,.int .i64 at_,.string (B sound)] 30)).alloc (by simp) (.cells #[.int .i64 5,.int .i64 0] 39));refine bodyPost_ret (results_cell_row rfl _ _ (w.heap.size+1) _ _ _ _ rfl F.1 Tryz.underlying39 rfl (by kernel_rfl)) rfl ?_;exact HPf.out HQ.out 5 0 _ (by omega) F.2
 · have q0:((ms.length:Int)==0)=false:=by rw [beq_eq_false_iff_ne];omega
   obtain⟨M0,hM0⟩:∃M0,M0=ckM at_ okb 0 false ms:=⟨_,rfl⟩
   have HM0:=Lib.hid hM0;have HCG:Hid (R=Zhk at_ ns.length v M0):=Lib.hid (by rw [HCF.out,hM0,show ms.isEmpty=false from(by cases ms with|nil=>exact absurd rfl hne|cons _ _=>rfl)];rfl);clear hne HCF hM0;go_enter Tryz.func17,Tryz.ntmps17
   go_wp2_with fail
   go_loopw [3,15] (fun b i wx=>FkRel w #[.slice A ms.length c,.string (B v),.int .i64 vs,.slice AN ns.length cN,.int .i64 at_,.string (B sound)] ms at_ okb M0 b i wx) (fun _ i _=>ms.length - (intOf i).toNat)
   case atStart=>exact⟨0,false,Nat.zero_le _,Nat.zero_le _,rfl,rfl,ST0.out,HM0.out⟩
   case round=>
    obtain⟨k,nt,hk,hk4,rfl,rfl,hst,hno⟩:=hrel;have ST:=Lib.hid hst;have HO:=Lib.hid hno;clear hst hno c0 c1 c2 c3 c4 c5 r0 r1 rf l1 l2;obtain⟨⟨c0,c1,c2,c3,c4,c5⟩,⟨r0,r1⟩,rf,l1,l2⟩:=ST.out.cells;by_cases hlt:k<ms.length
    · obtain⟨m,hk1⟩:∃m,ms[k]? =some m:=⟨_,List.getElem?_eq_getElem hlt⟩
      obtain⟨ad,rfl,hadb,y0,y1⟩:=(HR.out.below ST.out.low).meta hk1;have hdr:ms.drop k=m::ms.drop (k+1):=by
       rw [List.drop_eq_getElem_cons hlt];congr 1;rw [List.getElem?_eq_getElem hlt] at hk1;injection hk1
      have HO2:Hid (M0=if 4096≤k then none else if Zam k m.kind.toNat m.body.length nt=false then none else if m.kind≠4 then ckM at_ okb (k+1) nt (ms.drop (k+1)) else if m.body≠[]∨at_≠k then none else if okb=false then none else ckM at_ okb (k+1) true (ms.drop (k+1))):=Lib.hid (by rw [HO.out,hdr,Zj7]);have hbl:ad.block<wr.heap.size:=Nat.lt_of_lt_of_le hadb ST.out.low.size;have hst:=fun w=>Zi0 k m nt w;have hkl:=m.kind.toNat_lt;have hbe:((B m.body).toList==[])=m.body.isEmpty:=by rw [Zb5];cases m.body<;>rfl
      clear hk1 hdr HO;by_cases h4:k=4096
      · have h4a:4096≤k:=by omega
        clear h4;have h4b:4096≤(k:Int):=by omega
        have STa:=ST.out.alloc (.cells #[.int .u8 m.kind.toNat,.string (B m.body)] 72);have qcell0:=STa.res.cell 0;have qcell1:=STa.res.cell 1;have qfree0:=STa.res.free 0;have qfree1:=STa.res.free 1;clear STa;have HC:Hid (M0=none):=Lib.hid (by rw [HO2.out];rw [if_pos h4a]);have HQ:Hid (R=false):=Lib.hid (by rw [HCG.out,HC.out];rfl);clear HO2 HCG HC hst hck;go_wp2_with fail
        have F0:=ST.out.fin (.int .i64 4) (.int .i64 (k:Nat));have F:=And.intro (F0.1.alloc (.cells #[.int .u8 m.kind.toNat,.string (B m.body)] 72)) (F0.2.alloc F0.2.size (.cells #[.int .u8 m.kind.toNat,.string (B m.body)] 72));refine bodyPost_ret (results_cell_row rfl _ _ (w.heap.size+1) _ _ _ _ rfl F.1 Tryz.underlying39 rfl (by kernel_rfl)) rfl ?_;exact HPf.out HQ.out _ _ _ (by omega) F.2
      · have h4a:¬4096≤k:=by omega
        have h4b:¬4096≤(k:Int):=by omega
        cases hsd:Zam k m.kind.toNat m.body.length nt with
        |false=>
         rw [hsd] at hst;have HC:Hid (M0=none):=Lib.hid (by rw [HO2.out];rw [if_neg h4a,if_pos hsd]);have HQ:Hid (R=false):=Lib.hid (by rw [HCG.out,HC.out];rfl);clear HO2 HCG HC hck hsd;go_wp2_with (go_at_call 30;refine(hst _).mono ?_;rintro e w1 ⟨rfl,hb1⟩;have MB:=Lib.hid ((Bx.new wr #[.int .u8 m.kind.toNat,.string (B m.body)] 72).below hb1);have z0:=MB.out.cell 0;have z1:=MB.out.cell 1;have zl:=MB.out.lt;have ST1:=Lib.hid ((ST.out.alloc _).below hb1);clear hb1 c0 c1 c2 c3 c4 c5 r0 r1 rf l1 l2;obtain⟨⟨c0,c1,c2,c3,c4,c5⟩,⟨r0,r1⟩,rf,l1,l2⟩:=ST1.out.cells)
         have F:=ST1.out.fin (.int .i64 5) (.int .i64 (k:Nat));refine bodyPost_ret (results_cell_row rfl _ _ (w.heap.size+1) _ _ _ _ rfl F.1 Tryz.underlying39 rfl (by kernel_rfl)) rfl ?_;exact HPf.out HQ.out _ _ _ (by omega) F.2
        |true=>
         rw [hsd] at hst;have hsd2:¬Zam k m.kind.toNat m.body.length nt=false:=by rw [hsd];decide
         by_cases hk3:m.kind=4
         · have q3:((m.kind.toNat:Int) !=4)=false:=by rw [hk3];rfl
           have hk3n:¬m.kind≠4:=by simpa using hk3
           by_cases hbd:m.body=[]
           · have q4:((B m.body).toList==[])=true:=by rw [hbd,Zb5];rfl
             have q5:((B m.body).toList=[]):=by rw [hbd,Zb5]
             by_cases hat:at_=k
             · have q6:(at_ !=(k:Int))=false:=by rw [hat];simp
               have hor:¬(m.body≠[]∨at_≠k):=by rintro(h|h);exact h hbd;exact h hat
               have HAT:=Lib.hid hat;clear hbe;cases okb with
               |false=>
                have hbf:=fun(n a:Int) (h:1≤n) w=>ZcB n a (by omega) w;have HC:Hid (M0=none):=Lib.hid (by rw [HO2.out];rw [if_neg h4a,if_neg hsd2,if_neg hk3n,if_neg hor,if_pos rfl]);have HQ:Hid (R=false):=Lib.hid (by rw [HCG.out,HC.out];rfl);clear HO2 HCG HC hsd hsd2 hk3n hor hat hbd hk3 h4a;go_wp2_with (first
                 |(go_at_call 30;refine(hst _).mono ?_;rintro e w1 ⟨rfl,hb1⟩;have MB:=Lib.hid ((Bx.new wr #[.int .u8 m.kind.toNat,.string (B m.body)] 72).below hb1);have z0:=MB.out.cell 0;have z1:=MB.out.cell 1;have zl:=MB.out.lt;have ST1:=Lib.hid ((ST.out.alloc _).below hb1);clear hb1 c0 c1 c2 c3 c4 c5 r0 r1 rf l1 l2;obtain⟨⟨c0,c1,c2,c3,c4,c5⟩,⟨r0,r1⟩,rf,l1,l2⟩:=ST1.out.cells)
                 |(go_at_call 31;refine(hck _ ST1.out.low).mono ?_;rintro e w2 ⟨n,a,rfl,h1,hb2⟩;have H1:1≤n:=h1;clear h1;have MC:=Lib.hid (MB.out.below hb2);have ST2:=Lib.hid (ST1.out.below hb2);clear hb2 hck MB z0 z1 zl)
                 |(go_at_call 8;refine(hbf _ _ H1 _).mono ?_;rintro e w3 ⟨rfl,hb3⟩;have NB:=Lib.hid ((Bx.new w2 #[.int .i64 n,.int .i64 a] 39).below hb3);have z0:=NB.out.cell 0;have ST3:=Lib.hid ((ST2.out.alloc _).below hb3);clear hb3 c0 c1 c2 c3 c4 c5 r0 r1 rf l1 l2;obtain⟨⟨c0,c1,c2,c3,c4,c5⟩,⟨r0,r1⟩,rf,l1,l2⟩:=ST3.out.cells))
                have F:=ST3.out.fin (.int .i64 n) (.int .i64 (k:Nat));refine bodyPost_ret (results_cell_row rfl _ _ (w.heap.size+1) _ _ _ _ rfl F.1 Tryz.underlying39 rfl (by kernel_rfl)) rfl ?_;exact HPf.out HQ.out _ _ _ (by omega) F.2
               |true=>
                have hbt:=fun w=>ZaG 0 0 rfl w;have HC:Hid (M0=ckM at_ true (k+1) true (ms.drop (k+1))):=Lib.hid (by rw [HO2.out,if_neg h4a,if_neg hsd2,if_neg hk3n,if_neg hor,if_neg (by decide)]);clear HO2 hsd hsd2 hk3n hor hat hbd hk3 h4a;go_wp2_with (first
                 |(go_at_call 30;refine(hst _).mono ?_;rintro e w1 ⟨rfl,hb1⟩;have MB:=Lib.hid ((Bx.new wr #[.int .u8 m.kind.toNat,.string (B m.body)] 72).below hb1);have z0:=MB.out.cell 0;have z1:=MB.out.cell 1;have zl:=MB.out.lt;have ST1:=Lib.hid ((ST.out.alloc _).below hb1);clear hb1 c0 c1 c2 c3 c4 c5 r0 r1 rf l1 l2;obtain⟨⟨c0,c1,c2,c3,c4,c5⟩,⟨r0,r1⟩,rf,l1,l2⟩:=ST1.out.cells)
                 |(go_at_call 31;refine(hck _ ST1.out.low).mono ?_;rintro e w2 ⟨n,a,rfl,h1,hb2⟩;obtain⟨rfl,rfl⟩:n=0∧a=0:=h1;have MC:=Lib.hid (MB.out.below hb2);have ST2:=Lib.hid (ST1.out.below hb2);clear hb2 hck MB z0 z1 zl)
                 |(go_at_call 8;refine(hbt _).mono ?_;rintro e w3 ⟨rfl,hb3⟩;have ST3:=Lib.hid ((ST2.out.alloc _).below hb3);clear hb3))
                go_roundw
                case rel=>exact⟨k+1,true,by omega,by omega,by go_num,rfl,ST3.out,HC.out⟩
                case measure=>simp [intOf];omega
             · have q6:(at_ !=(k:Int))=true:=by simpa using hat
               have hor:m.body≠[]∨at_≠k:= .inr hat;clear hbe;have HC:Hid (M0=none):=Lib.hid (by rw [HO2.out];rw [if_neg h4a,if_neg hsd2,if_neg hk3n,if_pos hor]);have HQ:Hid (R=false):=Lib.hid (by rw [HCG.out,HC.out];rfl);clear HO2 HCG HC hck hsd hsd2 hk3n hor hbd hk3 h4a;go_wp2_with (go_at_call 30;refine(hst _).mono ?_;rintro e w1 ⟨rfl,hb1⟩;have MB:=Lib.hid ((Bx.new wr #[.int .u8 m.kind.toNat,.string (B m.body)] 72).below hb1);have z0:=MB.out.cell 0;have z1:=MB.out.cell 1;have zl:=MB.out.lt;have ST1:=Lib.hid ((ST.out.alloc _).below hb1);clear hb1 c0 c1 c2 c3 c4 c5 r0 r1 rf l1 l2;obtain⟨⟨c0,c1,c2,c3,c4,c5⟩,⟨r0,r1⟩,rf,l1,l2⟩:=ST1.out.cells)
               have F:=ST1.out.fin (.int .i64 5) (.int .i64 (k:Nat));refine bodyPost_ret (results_cell_row rfl _ _ (w.heap.size+1) _ _ _ _ rfl F.1 Tryz.underlying39 rfl (by kernel_rfl)) rfl ?_;exact HPf.out HQ.out _ _ _ (by omega) F.2
           · have q4:((B m.body).toList==[])=false:=by rw [Zb5];simpa using hbd
             have q5:¬((B m.body).toList=[]):=by rw [Zb5];exact hbd
             have hor:m.body≠[]∨at_≠k:= .inl hbd;clear hbe;have HC:Hid (M0=none):=Lib.hid (by rw [HO2.out];rw [if_neg h4a,if_neg hsd2,if_neg hk3n,if_pos hor]);have HQ:Hid (R=false):=Lib.hid (by rw [HCG.out,HC.out];rfl);clear HO2 HCG HC hck hsd hsd2 hk3n hor hbd hk3 h4a;go_wp2_with (go_at_call 30;refine(hst _).mono ?_;rintro e w1 ⟨rfl,hb1⟩;have MB:=Lib.hid ((Bx.new wr #[.int .u8 m.kind.toNat,.string (B m.body)] 72).below hb1);have z0:=MB.out.cell 0;have z1:=MB.out.cell 1;have zl:=MB.out.lt;have ST1:=Lib.hid ((ST.out.alloc _).below hb1);clear hb1 c0 c1 c2 c3 c4 c5 r0 r1 rf l1 l2;obtain⟨⟨c0,c1,c2,c3,c4,c5⟩,⟨r0,r1⟩,rf,l1,l2⟩:=ST1.out.cells)
             have F:=ST1.out.fin (.int .i64 5) (.int .i64 (k:Nat));refine bodyPost_ret (results_cell_row rfl _ _ (w.heap.size+1) _ _ _ _ rfl F.1 Tryz.underlying39 rfl (by kernel_rfl)) rfl ?_;exact HPf.out HQ.out _ _ _ (by omega) F.2
         · have q3:((m.kind.toNat:Int) !=4)=true:=by rw [bne_iff_ne];exact fun h=>hk3 (UInt8.toNat_inj.1 (by show m.kind.toNat=4;omega))
           have HC:Hid (M0=ckM at_ okb (k+1) nt (ms.drop (k+1))):=Lib.hid (by rw [HO2.out,if_neg h4a,if_neg hsd2,if_pos hk3]);clear HO2 hsd hsd2 hk3 h4a hbe hck;go_wp2_with (go_at_call 30;refine(hst _).mono ?_;rintro e w1 ⟨rfl,hb1⟩;have MB:=Lib.hid ((Bx.new wr #[.int .u8 m.kind.toNat,.string (B m.body)] 72).below hb1);have z0:=MB.out.cell 0;have z1:=MB.out.cell 1;have zl:=MB.out.lt;have ST1:=Lib.hid ((ST.out.alloc _).below hb1);clear hb1 c0 c1 c2 c3 c4 c5 r0 r1 rf l1 l2;obtain⟨⟨c0,c1,c2,c3,c4,c5⟩,⟨r0,r1⟩,rf,l1,l2⟩:=ST1.out.cells)
           go_roundw
           case rel=>exact⟨k+1,nt,by omega,by omega,by go_num,rfl,ST1.out,HC.out⟩
           case measure=>simp [intOf];omega
    · obtain rfl:k=ms.length:=by omega
      have HC:Hid (R=(nt|| !(decide (0≤at_)||(decide (0<ns.length)|| !v.isEmpty)))):=Lib.hid (by rw [HCG.out,HO.out,List.drop_length];rfl);clear HO HCG hck;cases nt with
      |true=>
       have HQ:Hid (R=true):=Lib.hid (by rw [HC.out];simp_all);clear HC hve;go_wp2_with fail
       have F:=ST.out.fin (.int .i64 0) (.int .i64 0);refine bodyPost_ret (results_cell_row rfl _ _ (w.heap.size+1) _ _ _ _ rfl F.1 Tryz.underlying39 rfl (by kernel_rfl)) rfl ?_;exact HPt.out HQ.out _ F.2
      |false=>
       by_cases ha:0≤at_
       · have q1:decide (0≤at_)=true:=decide_eq_true ha;have HQ:Hid (R=false):=Lib.hid (by rw [HC.out];simp_all);clear HC hve;go_wp2_with fail
         have F:=ST.out.fin (.int .i64 5) (.int .i64 (ms.length:Nat));refine bodyPost_ret (results_cell_row rfl _ _ (w.heap.size+1) _ _ _ _ rfl F.1 Tryz.underlying39 rfl (by kernel_rfl)) rfl ?_;exact HPf.out HQ.out _ _ _ (by omega) F.2
       · have q1:decide (0≤at_)=false:=decide_eq_false ha;by_cases hz:0<ns.length
         · have q2:0<(ns.length:Int):=by omega
           have HQ:Hid (R=false):=Lib.hid (by rw [HC.out];simp_all);clear HC hve;go_wp2_with fail
           have F:=ST.out.fin (.int .i64 5) (.int .i64 (ms.length:Nat));refine bodyPost_ret (results_cell_row rfl _ _ (w.heap.size+1) _ _ _ _ rfl F.1 Tryz.underlying39 rfl (by kernel_rfl)) rfl ?_;exact HPf.out HQ.out _ _ _ (by omega) F.2
         · have q2:¬0<(ns.length:Int):=by omega
           by_cases hvv:v=[]
           · have q3:((B v).toList==[])=true:=by rw [hvv,Zb5];rfl
             have q4:((B v).toList=[]):=by rw [hvv,Zb5]
             have HQ:Hid (R=true):=Lib.hid (by rw [HC.out];simp_all);clear HC hve hvv;go_wp2_with fail
             have F:=ST.out.fin (.int .i64 0) (.int .i64 0);refine bodyPost_ret (results_cell_row rfl _ _ (w.heap.size+1) _ _ _ _ rfl F.1 Tryz.underlying39 rfl (by kernel_rfl)) rfl ?_;exact HPt.out HQ.out _ F.2
           · have q3:((B v).toList==[])=false:=by rw [Zb5];simpa using hvv
             have q4:¬((B v).toList=[]):=by rw [Zb5];exact hvv
             have HQ:Hid (R=false):=Lib.hid (by rw [HC.out];simp_all);clear HC hve hvv;go_wp2_with fail
             have F:=ST.out.fin (.int .i64 5) (.int .i64 (ms.length:Nat));refine bodyPost_ret (results_cell_row rfl _ _ (w.heap.size+1) _ _ _ _ rfl F.1 Tryz.underlying39 rfl (by kernel_rfl)) rfl ?_;exact HPf.out HQ.out _ _ _ (by omega) F.2
def Zay (v:List UInt8)(ns:List Nx):Bool:=ns.all (fun n=>decide (n.name.length≤50)&&decide (n.text.length≤150))&&(decide (ns.length≤30)&&decide (v.length≤150))
def LcRel (w0:World)(BA:Array Value)(ns:List Nx)(i:Value)(wx:World):Prop:=∃k:Nat,k≤ns.length∧i= .int .i64 k∧Bx wx w0.heap.size BA 28∧Below w0.heap.size w0 wx∧∀n∈ns.take k,n.name.length≤50∧n.text.length≤150
theorem Zop (v:List UInt8)(vs:Int)(A:Option Addr)(c:Nat)(ns:List Nx)(hn:ns.length≤9223372036854775807)(w:World)(h:RdN 3 nxV w w.heap.size A ns):
 Calls Tryz.prog 14 #[.agg #[.string (B v),.int .i64 vs,.slice A ns.length c]] w fun e w'=>e= .returned (.bool (Zay v ns))∧Below w.heap.size w w':=by
 have HP:Hid (∀(b:Bool) w',Zay v ns=b→Below w.heap.size w w'→(fun(e:Ending) (w':World)=>e=Ending.returned (.bool (Zay v ns))∧Below w.heap.size w w') (.returned (.bool b)) w'):=Lib.hid fun b w' hb h=>⟨by rw [hb],h⟩
 generalize (fun(e:Ending) (w':World)=>e=Ending.returned (.bool (Zay v ns))∧Below w.heap.size w w')=P at*;have B0:=Lib.hid (Bx.new w #[.string (B v),.int .i64 vs,.slice A ns.length c] 28);have L0:=Lib.hid ((Below.refl _ w).alloc (Nat.le_refl _) (.cells #[.string (B v),.int .i64 vs,.slice A ns.length c] 28));have HR:=Lib.hid h;have hsv:=Zt v;clear h;go_enter Tryz.func14,Tryz.ntmps14
 go_wp2_with fail
 go_loopw [8] (fun i wx=>LcRel w #[.string (B v),.int .i64 vs,.slice A ns.length c] ns i wx) (fun i _=>ns.length - (intOf i).toNat)
 case atStart=>exact⟨0,Nat.zero_le _,rfl,B0.out,L0.out,by simp⟩
 case round=>
  obtain⟨k,hk,rfl,hbx,hlo,hno⟩:=hrel;have BX:=Lib.hid hbx;have LO:=Lib.hid hlo;have HO:=Lib.hid hno;have c0:=hbx.cell 0;have c2:=hbx.cell 2;have hlt0:=hbx.lt;clear hbx hlo hno;by_cases hlt:k<ns.length
  · obtain⟨n,hk1⟩:∃n,ns[k]? =some n:=⟨_,List.getElem?_eq_getElem hlt⟩
    obtain⟨ad,rfl,hadb,y0,y1,y2⟩:=(HR.out.below LO.out).note hk1;have hbl:ad.block<wr.heap.size:=Nat.lt_of_lt_of_le hadb LO.out.size;have HK:=Lib.hid hk1;have hmem:=List.mem_of_getElem? hk1;have hs1:=Zt n.name;have hs2:=Zt n.text;clear hk1;by_cases h1:n.name.length≤50
    · have q1:decide (50<(n.name.length:Int))=false:=decide_eq_false (by omega);have q1':¬50<(n.name.length:Int):=by omega
      by_cases h2:n.text.length≤150
      · have q2:decide (150<(n.text.length:Int))=false:=decide_eq_false (by omega);have q2':¬150<(n.text.length:Int):=by omega
        have H12:=Lib.hid (And.intro h1 h2);clear h1 h2 hmem;go_wp2_with fail
        go_roundw
        case rel=>exact⟨k+1,by omega,by go_num,BX.out.alloc _,LO.out.alloc LO.out.size _,fun q hq=>by
         rw [ZdW HK.out] at hq;rcases List.mem_append.1 hq with hq|hq
         · exact HO.out q hq
         · simp only [List.mem_singleton] at hq;subst hq;exact H12.out⟩
        case measure=>simp [intOf];omega
      · have q2:decide (150<(n.text.length:Int))=true:=decide_eq_true (by omega);have q2':150<(n.text.length:Int):=by omega
        have HQ:Hid (Zay v ns=false):=Lib.hid (by
         have:ns.all (fun n=>decide (n.name.length≤50)&&decide (n.text.length≤150))=false:=by
          rw [List.all_eq_false];exact⟨n,hmem,by simp;omega⟩
         unfold Zay;rw [this];rfl)
        clear h1 h2 hmem;go_wp2_with fail
        exact HP.out false _ HQ.out (LO.out.alloc LO.out.size _)
    · have q1:decide (50<(n.name.length:Int))=true:=decide_eq_true (by omega);have q1':50<(n.name.length:Int):=by omega
      have HQ:Hid (Zay v ns=false):=Lib.hid (by
       have:ns.all (fun n=>decide (n.name.length≤50)&&decide (n.text.length≤150))=false:=by
        rw [List.all_eq_false];exact⟨n,hmem,by simp;omega⟩
       unfold Zay;rw [this];rfl)
      clear h1 hmem;go_wp2_with fail
      exact HP.out false _ HQ.out (LO.out.alloc LO.out.size _)
  · obtain rfl:k=ns.length:=by omega
    have hall:ns.all (fun n=>decide (n.name.length≤50)&&decide (n.text.length≤150))=true:=by
     rw [List.all_eq_true];have:=HO.out;rw [List.take_length] at this;intro q hq;have:=this q hq;simp;exact this
    have HQ:Hid (Zay v ns=(decide (ns.length≤30)&&decide (v.length≤150))):=Lib.hid (by unfold Zay;rw [hall];rfl);clear hall;by_cases h1:ns.length≤30
    · have q1:decide ((ns.length:Int)≤30)=true:=decide_eq_true (by omega);by_cases h2:v.length≤150
      · have q2:decide ((v.length:Int)≤150)=true:=decide_eq_true (by omega);have HQ2:Hid (Zay v ns=true):=Lib.hid (by rw [HQ.out,decide_eq_true h1,decide_eq_true h2];rfl);clear h1 h2 HQ;go_wp2_with fail
        exact HP.out true _ HQ2.out LO.out
      · have q2:decide ((v.length:Int)≤150)=false:=decide_eq_false (by omega);have HQ2:Hid (Zay v ns=false):=Lib.hid (by rw [HQ.out,decide_eq_true h1,decide_eq_false h2];rfl);clear h1 h2 HQ;go_wp2_with fail
        exact HP.out false _ HQ2.out LO.out
    · have q1:decide ((ns.length:Int)≤30)=false:=decide_eq_false (by omega);have HQ2:Hid (Zay v ns=false):=Lib.hid (by rw [HQ.out,decide_eq_false h1];rfl);clear h1 HQ;go_wp2_with fail
      exact HP.out false _ HQ2.out LO.out
def Zcj (ms:List Mx)(v:List UInt8)(ns:List Nx)(sound:List UInt8):Bool:=ms.all (fun m=>decide (m.body.length≤500))&&(decide (ms.length≤30)&&(decide (sound.length≤500)&&Zay v ns))
theorem Zrr {ms:List Mx} {v:List UInt8} {ns:List Nx} {sound:List UInt8} (h:Zcj ms v ns sound=true):LightX ms v ns sound:=by
 unfold Zcj Zay at h;simp only [Bool.and_eq_true,List.all_eq_true,decide_eq_true_eq] at h;exact⟨h.2.1,h.1,h.2.2.1,h.2.2.2.2.1,h.2.2.2.1,h.2.2.2.2.2⟩
def LfRel (w0:World)(FA:Array Value)(ms:List Mx)(i:Value)(wx:World):Prop:=∃k:Nat,k≤ms.length∧i= .int .i64 k∧Bx wx w0.heap.size FA 30∧Below w0.heap.size w0 wx∧∀m∈ms.take k,m.body.length≤500
theorem Zoq (ms:List Mx)(v:List UInt8)(vs:Int)(ns:List Nx)(at_:Int)(sound:List UInt8)(A AN:Option Addr)(c cN:Nat)(hm:ms.length≤9223372036854775807)(hn:ns.length≤9223372036854775807)(w:World)(h:RdN 2 mxV w w.heap.size A ms)(h2:RdN 3 nxV w w.heap.size AN ns):
 Calls Tryz.prog 5 #[.agg (flV (.slice A ms.length c) v vs (.slice AN ns.length cN) at_ sound)] w fun e w'=>e= .returned (.bool (Zcj ms v ns sound))∧Below w.heap.size w w':=by
 have HP:Hid (∀(b:Bool) w',Zcj ms v ns sound=b→Below w.heap.size w w'→(fun(e:Ending) (w':World)=>e=Ending.returned (.bool (Zcj ms v ns sound))∧Below w.heap.size w w') (.returned (.bool b)) w'):=Lib.hid fun b w' hb h=>⟨by rw [hb],h⟩
 generalize (fun(e:Ending) (w':World)=>e=Ending.returned (.bool (Zcj ms v ns sound))∧Below w.heap.size w w')=P at*;have hlc:=fun wx (hb:Below w.heap.size w wx)=>Zop v vs AN cN ns hn wx ((h2.below hb).more hb.size);unfold flV;have B0:=Lib.hid (Bx.new w #[.slice A ms.length c,.string (B v),.int .i64 vs,.slice AN ns.length cN,.int .i64 at_,.string (B sound)] 30);have L0:=Lib.hid ((Below.refl _ w).alloc (Nat.le_refl _) (.cells #[.slice A ms.length c,.string (B v),.int .i64 vs,.slice AN ns.length cN,.int .i64 at_,.string (B sound)] 30));have HR:=Lib.hid h;have hsv:=Zt sound;have HL:Hid (Zcj ms v ns sound=(ms.all (fun m=>decide (m.body.length≤500))&&(decide (ms.length≤30)&&(decide (sound.length≤500)&&Zay v ns)))):=Lib.hid rfl;generalize Zcj ms v ns sound=R at*;generalize Zay v ns=RC at*;clear h h2;go_enter Tryz.func5,Tryz.ntmps5
 go_wp2_with fail
 go_loopw [8] (fun i wx=>LfRel w #[.slice A ms.length c,.string (B v),.int .i64 vs,.slice AN ns.length cN,.int .i64 at_,.string (B sound)] ms i wx) (fun i _=>ms.length - (intOf i).toNat)
 case atStart=>exact⟨0,Nat.zero_le _,rfl,B0.out,L0.out,by simp⟩
 case round=>
  obtain⟨k,hk,rfl,hbx,hlo,hno⟩:=hrel;have BX:=Lib.hid hbx;have LO:=Lib.hid hlo;have HO:=Lib.hid hno;have c0:=hbx.cell 0;have c1:=hbx.cell 1;have c2:=hbx.cell 2;have c3:=hbx.cell 3;have c5:=hbx.cell 5;have hlt0:=hbx.lt;clear hbx hlo hno;by_cases hlt:k<ms.length
  · obtain⟨m,hk1⟩:∃m,ms[k]? =some m:=⟨_,List.getElem?_eq_getElem hlt⟩
    obtain⟨ad,rfl,hadb,y0,y1⟩:=(HR.out.below LO.out).meta hk1;have hbl:ad.block<wr.heap.size:=Nat.lt_of_lt_of_le hadb LO.out.size;have HK:=Lib.hid hk1;have hmem:=List.mem_of_getElem? hk1;have hs1:=Zt m.body;clear hk1;by_cases h1:m.body.length≤500
    · have q1':¬500<(m.body.length:Int):=by omega
      have H1:=Lib.hid h1;clear h1 hmem hlc;go_wp2_with fail
      go_roundw
      case rel=>exact⟨k+1,by omega,by go_num,BX.out.alloc _,LO.out.alloc LO.out.size _,fun q hq=>by
       rw [ZdW HK.out] at hq;rcases List.mem_append.1 hq with hq|hq
       · exact HO.out q hq
       · simp only [List.mem_singleton] at hq;subst hq;exact H1.out⟩
      case measure=>simp [intOf];omega
    · have q1':500<(m.body.length:Int):=by omega
      have HQ:Hid (R=false):=Lib.hid (by
       have:ms.all (fun m=>decide (m.body.length≤500))=false:=by
        rw [List.all_eq_false];exact⟨m,hmem,by simp;omega⟩
       rw [HL.out,this];rfl)
      clear h1 hmem HL hlc;go_wp2_with fail
      exact HP.out false _ HQ.out (LO.out.alloc LO.out.size _)
  · obtain rfl:k=ms.length:=by omega
    have hall:ms.all (fun m=>decide (m.body.length≤500))=true:=by
     rw [List.all_eq_true];have:=HO.out;rw [List.take_length] at this;intro q hq;have:=this q hq;simpa using this
    have HQ:Hid (R=(decide (ms.length≤30)&&(decide (sound.length≤500)&&RC))):=Lib.hid (by rw [HL.out,hall];rfl);clear hall HL;by_cases h1:ms.length≤30
    · have q1:decide ((ms.length:Int)≤30)=true:=decide_eq_true (by omega);by_cases h2:sound.length≤500
      · have q2:decide ((sound.length:Int)≤500)=true:=decide_eq_true (by omega);have HQ2:Hid (R=RC):=Lib.hid (by rw [HQ.out,decide_eq_true h1,decide_eq_true h2];rfl);clear h1 h2 HQ;go_wp2_with (go_at_call 14;refine(hlc _ LO.out).mono ?_;rintro e w1 ⟨rfl,hb1⟩;have L1:=Lib.hid (LO.out.trans (hb1.mono LO.out.size));clear hb1)
        all_goals exact HP.out RC _ HQ2.out L1.out
      · have q2:decide ((sound.length:Int)≤500)=false:=decide_eq_false (by omega);have HQ2:Hid (R=false):=Lib.hid (by rw [HQ.out,decide_eq_false h2];simp);clear h1 h2 HQ;go_wp2_with fail
        exact HP.out false _ HQ2.out LO.out
    · have q1:decide ((ms.length:Int)≤30)=false:=decide_eq_false (by omega);have HQ2:Hid (R=false):=Lib.hid (by rw [HQ.out,decide_eq_false h1];rfl);clear h1 HQ;go_wp2_with fail
      exact HP.out false _ HQ2.out LO.out
end Go.Proofs.YtlglfmbccihopaaGreatDoor
