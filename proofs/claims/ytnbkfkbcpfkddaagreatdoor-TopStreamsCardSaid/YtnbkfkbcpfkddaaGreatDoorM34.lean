/- Lemmas for a statement on the tops; conditions: as each says. -/
import Derived.Test.YtnbkfkbcpfkddaaGreatDoorM29
import Derived.Test.YtnbkfkbcpfkddaaGreatDoorM32
set_option linter.unusedVariables false
set_option linter.unusedSimpArgs false
set_option maxRecDepth 100000
set_option maxHeartbeats 4000000
namespace Go.Proofs.YtnbkfkbcpfkddaaGreatDoor
open Go Go.RowKit
theorem RdN.note {w:World} {B0:Nat} {A:Option Addr} {l:List Nx} (h:RdN 3 nxV w B0 A l){k:Nat} {x:Nx} (hk:l[k]? =some x):
 ∃ad,A=some ad∧ad.block<B0∧w.cell? (ad.add (k*3))=some (.string (B x.name))∧w.cell? ⟨(ad.add (k*3)).block,(ad.add (k*3)).off+1,none⟩=some (.string (B x.text))∧
  w.cell? ⟨(ad.add (k*3)).block,(ad.add (k*3)).off+2,none⟩=some (.int .i64 x.set):=by
 obtain⟨ad,hA,hb,hg⟩:=h.at_ Zde hk;have g0:=hg 0 _ (by omega) rfl;have g1:=hg 1 _ (by omega) rfl;have g2:=hg 2 _ (by omega) rfl;rw [Nat.add_zero] at g0;rw [ZdB _ _ _ (by omega)] at g1 g2;exact⟨ad,hA,hb,g0,g1,g2⟩
theorem Bx.dn {w:World} {g:Nat} {cs:Array Value} {T:TypeId} (h:Bx w g cs T)(n:Nat):Bx (w.drewN n) g cs T:=h
def CkV (w:World)(ok:Bool)(e:Ending)(w':World):Prop:=∃n a:Int,e= .returned (.agg #[.int .i64 n,.int .i64 a])∧(if ok then n=0∧a=0 else 1≤n)∧Below w.heap.size w w'
structure CcSt (w0 wx:World)(v:List UInt8)(vs:Int)(sl:Value):Prop where
 bb:Bx wx w0.heap.size #[.string (B v),.int .i64 vs,sl] 33
 res:Bx wx (w0.heap.size+1) #[.int .i64 0,.int .i64 0] 45
 low:Below w0.heap.size w0 wx
section
variable {w0 w w':World} {v:List UInt8} {vs:Int} {sl:Value}
theorem CcSt.below (h:CcSt w0 w v vs sl)(hb:Below w.heap.size w w'):CcSt w0 w' v vs sl:=⟨h.bb.below hb,h.res.below hb,h.low.trans (hb.mono h.low.size)⟩
theorem CcSt.alloc (h:CcSt w0 w v vs sl)(o:Obj):CcSt w0 (w.alloc o) v vs sl:=h.below ((Below.refl _ _).alloc (Nat.le_refl _) _)
theorem CcSt.drewN (h:CcSt w0 w v vs sl)(n:Nat):CcSt w0 (w.drewN n) v vs sl:=h.below (below_drewN (Below.refl _ _) n)
theorem CcSt.low2 (h:CcSt w0 w v vs sl)(hb:Below (w0.heap.size+2) w w'):CcSt w0 w' v vs sl:=⟨h.bb.same6 hb (by omega),h.res.same6 hb (by omega),h.low.trans (hb.mono (by omega))⟩
theorem CcSt.cells (h:CcSt w0 w v vs sl):(w.cell? ⟨w0.heap.size,0,none⟩=some (.string (B v))∧w.cell? ⟨w0.heap.size,1,none⟩=some (.int .i64 vs)∧w.cell? ⟨w0.heap.size,2,none⟩=some sl)∧
 (w.cell? ⟨w0.heap.size+1,0,none⟩=some (.int .i64 0)∧w.cell? ⟨w0.heap.size+1,1,none⟩=some (.int .i64 0))∧(∀j,w.frozen? ⟨w0.heap.size+1,j,none⟩=false)∧w0.heap.size<w.heap.size∧w0.heap.size+1<w.heap.size:=
 ⟨⟨h.bb.cell 0,h.bb.cell 1,h.bb.cell 2⟩,⟨h.res.cell 0,h.res.cell 1⟩,h.res.free,h.bb.lt,h.res.lt⟩
theorem CcSt.fin (h:CcSt w0 w v vs sl)(x y:Value):Bx ((w.setCell ⟨w0.heap.size+1,0,none⟩ x).setCell ⟨w0.heap.size+1,1,none⟩ y) (w0.heap.size+1) #[x,y] 45∧Below w0.heap.size w0 ((w.setCell ⟨w0.heap.size+1,0,none⟩ x).setCell ⟨w0.heap.size+1,1,none⟩ y):=
 ⟨Za9 h.res x y,(h.low.setCell (p:=⟨w0.heap.size+1,0,none⟩) (Nat.le_succ _) x).setCell (p:=⟨w0.heap.size+1,1,none⟩) (Nat.le_succ _) y⟩
theorem CcSt.mk0 (w:World)(v:List UInt8)(vs:Int)(sl:Value):CcSt w ((w.alloc (.cells #[.string (B v),.int .i64 vs,sl] 33)).alloc (.cells #[.int .i64 0,.int .i64 0] 45)) v vs sl:=
 ⟨(Bx.new w _ _).alloc _,by have:=Bx.new (w.alloc (.cells #[.string (B v),.int .i64 vs,sl] 33)) #[.int .i64 0,.int .i64 0] 45;rw [World.size_alloc] at this;exact this,((Below.refl _ _).alloc (Nat.le_refl _) _).alloc (by simp) _⟩
end
def CcRel (w0:World)(v:List UInt8)(vs:Int)(sl:Value)(ns:List Nx)(i:Value)(wx:World):Prop:=∃k:Nat,k≤ns.length∧k≤4096∧i= .int .i64 k∧CcSt w0 wx v vs sl∧∀n∈ns.take k,Zcj n=true
theorem ZhG (v:List UInt8)(vs:Int)(A:Option Addr)(c:Nat)(ns:List Nx)(hv:v.length≤100000)(hn:∀n∈ns,n.name.length≤100000∧n.text.length≤100000)(w:World)(hG:Grd w)(h:RdN 3 nxV w w.heap.size A ns):
 Calls Tryz.prog 76 #[.agg #[.string (B v),.int .i64 vs,.slice A ns.length c]] w (CkV w (ckC v ns)):=by
 have HPt:Hid (ckC v ns=true→∀w',Below w.heap.size w w'→CkV w (ckC v ns) (.returned (.agg #[.int .i64 0,.int .i64 0])) w'):=Lib.hid fun h w' hb=>⟨0,0,rfl,by rw [h];exact⟨rfl,rfl⟩,hb⟩
 have HPf:Hid (ckC v ns=false→∀(n a:Int) w',1≤n→Below w.heap.size w w'→CkV w (ckC v ns) (.returned (.agg #[.int .i64 n,.int .i64 a])) w'):=Lib.hid fun h n a w' h1 hb=>⟨n,a,rfl,by rw [h];exact h1,hb⟩
 generalize CkV w (ckC v ns)=P at*;have ST0:=Lib.hid (CcSt.mk0 w v vs (.slice A ns.length c));have hva:=fun w hT=>ZfF v hv w hT;have GR:=Lib.hid hG;have HR:=Lib.hid h;have HN:=Lib.hid hn;clear hG h hn;obtain⟨⟨c0,c1,c2⟩,⟨r0,r1⟩,rf,l1,l2⟩:=ST0.out.cells;cases hu:Zbj v with
 |false=>
  rw [hu] at hva;have HC:Hid (ckC v ns=false):=Lib.hid (by unfold ckC;rw [hu];rfl);clear hu;go_enter Tryz.func76,Tryz.ntmps76
  go_wp2_with (go_at_call 123;refine(hva _ (GR.out.below ST0.out.low).tabs).mono ?_;rintro e w1 ⟨rfl,hb1⟩;have ST1:=Lib.hid (ST0.out.below hb1);clear hb1 c0 c1 c2 r0 r1 rf l1 l2;obtain⟨⟨c0,c1,c2⟩,⟨r0,r1⟩,rf,l1,l2⟩:=ST1.out.cells)
  have F:=ST1.out.fin (.int .i64 2) (.int .i64 0);refine bodyPost_ret (results_cell_row rfl _ _ (w.heap.size+1) _ _ _ _ rfl F.1 Tryz.underlying45 rfl (by kernel_rfl)) rfl ?_;exact HPf.out HC.out 2 0 _ (by omega) F.2
 |true=>
  rw [hu] at hva;have HU:=Lib.hid hu;clear hu;go_enter Tryz.func76,Tryz.ntmps76
  go_wp2_with (go_at_call 123;refine(hva _ (GR.out.below ST0.out.low).tabs).mono ?_;rintro e w1 ⟨rfl,hb1⟩;have ST1:=Lib.hid (ST0.out.below hb1);clear hb1 c0 c1 c2 r0 r1 rf l1 l2;obtain⟨⟨c0,c1,c2⟩,⟨r0,r1⟩,rf,l1,l2⟩:=ST1.out.cells)
  go_loopw [14] (fun i wx=>CcRel w v vs (.slice A ns.length c) ns i wx) (fun i _=>ns.length - (intOf i).toNat)
  case atStart=>exact⟨0,Nat.zero_le _,Nat.zero_le _,rfl,ST1.out,by simp⟩
  case round=>
   obtain⟨k,hk,hk4,rfl,hst,hno⟩:=hrel;have ST:=Lib.hid hst;have HO:=Lib.hid hno;clear hst hno c0 c1 c2 r0 r1 rf l1 l2;obtain⟨⟨c0,c1,c2⟩,⟨r0,r1⟩,rf,l1,l2⟩:=ST.out.cells;by_cases hlt:k<ns.length
   · obtain⟨n,hk1⟩:∃n,ns[k]? =some n:=⟨_,List.getElem?_eq_getElem hlt⟩
     have hnl:=HN.out n (List.mem_of_getElem? hk1);obtain⟨ad,rfl,hadb,y0,y1,y2⟩:=(HR.out.below ST.out.low).note hk1;have hnm:=fun w=>ZlD n.name (by omega) w;have hvt:=fun w hT=>ZfF n.text hnl.2 w hT;have HK1:=Lib.hid hk1;have hbl:ad.block<wr.heap.size:=Nat.lt_of_lt_of_le hadb ST.out.low.size;clear hk1 hnl;by_cases h4:k=4096
     · have h4b:4096≤(k:Int):=by omega
       have hwr:IntKind.i64.wrap ((k:Int)+1)=(k:Int)+1:=by rw [IntKind.wrap_i64];omega
       have HC:Hid (ckC v ns=false):=Lib.hid (by unfold ckC;rw [decide_eq_false (show¬ns.length≤4096 by omega),Bool.and_false,Bool.and_false]);clear h4;have STa:=ST.out.alloc (.cells #[.string (B n.name),.string (B n.text),.int .i64 n.set] 91);have qc0:=STa.res.cell 0;have qc1:=STa.res.cell 1;have qf0:=STa.res.free 0;have qf1:=STa.res.free 1;clear STa;go_wp2_with fail
       have F0:=ST.out.fin (.int .i64 4) (.int .i64 ((k:Int)+1));have F:=And.intro (F0.1.alloc (.cells #[.string (B n.name),.string (B n.text),.int .i64 n.set] 91)) (F0.2.alloc F0.2.size (.cells #[.string (B n.name),.string (B n.text),.int .i64 n.set] 91));refine bodyPost_ret (results_cell_row rfl _ _ (w.heap.size+1) _ _ _ _ rfl F.1 Tryz.underlying45 rfl (by kernel_rfl)) rfl ?_;exact HPf.out HC.out 4 _ _ (by omega) F.2
     · have h4':¬4096≤(k:Int):=by omega
       cases hnk:Zcj n with
       |false=>
        have HC:Hid (ckC v ns=false):=Lib.hid (by
         have:ns.all Zcj=false:=by
          rw [List.all_eq_false];exact⟨n,List.mem_of_getElem? HK1.out,by rw [hnk];decide⟩
         unfold ckC;rw [this,Bool.false_and,Bool.and_false])
        have hwr:IntKind.i64.wrap ((k:Int)+1)=(k:Int)+1:=by rw [IntKind.wrap_i64];omega
        unfold Zcj at hnk;change∀w,Calls Tryz.prog 155 #[.string (B n.name)] w fun e w'=>e= .returned (.bool (ZdS n.name))∧Below w.heap.size w w' at hnm
        generalize ZdS n.name=nb at*;cases nb with
        |false=>
         clear hnk hvt;go_wp2_with (go_at_call 155;refine(hnm _).mono ?_;rintro e w2 ⟨rfl,hb2⟩;have ST2:=Lib.hid ((ST.out.alloc _).below hb2);clear hb2 c0 c1 c2 r0 r1 rf l1 l2;obtain⟨⟨c0,c1,c2⟩,⟨r0,r1⟩,rf,l1,l2⟩:=ST2.out.cells)
         have F:=ST2.out.fin (.int .i64 5) (.int .i64 ((k:Int)+1));refine bodyPost_ret (results_cell_row rfl _ _ (w.heap.size+1) _ _ _ _ rfl F.1 Tryz.underlying45 rfl (by kernel_rfl)) rfl ?_;exact HPf.out HC.out 5 _ _ (by omega) F.2
        |true=>
         rw [Bool.true_and] at hnk;rw [hnk] at hvt;clear hnk;go_wp2_with (first
          |(go_at_call 155;refine(hnm _).mono ?_;rintro e w2 ⟨rfl,hb2⟩;have NB:=Lib.hid ((Bx.new wr #[.string (B n.name),.string (B n.text),.int .i64 n.set] 91).below hb2);have z1:=NB.out.cell 1;have ST2:=Lib.hid ((ST.out.alloc _).below hb2);clear hb2 c0 c1 c2 r0 r1 rf l1 l2)
          |(go_at_call 123;refine(hvt _ (GR.out.below ST2.out.low).tabs).mono ?_;rintro e w3 ⟨rfl,hb3⟩;have ST3:=Lib.hid (ST2.out.below hb3);clear hb3;obtain⟨⟨c0,c1,c2⟩,⟨r0,r1⟩,rf,l1,l2⟩:=ST3.out.cells))
         have F:=ST3.out.fin (.int .i64 2) (.int .i64 ((k:Int)+1));refine bodyPost_ret (results_cell_row rfl _ _ (w.heap.size+1) _ _ _ _ rfl F.1 Tryz.underlying45 rfl (by kernel_rfl)) rfl ?_;exact HPf.out HC.out 2 _ _ (by omega) F.2
       |true=>
        have HNK:=Lib.hid hnk;unfold Zcj at hnk;rw [Bool.and_eq_true] at hnk;change∀w,Calls Tryz.prog 155 #[.string (B n.name)] w fun e w'=>e= .returned (.bool (ZdS n.name))∧Below w.heap.size w w' at hnm
        rw [hnk.1] at hnm;rw [hnk.2] at hvt;clear hnk;go_wp2_with (first
         |(go_at_call 155;refine(hnm _).mono ?_;rintro e w2 ⟨rfl,hb2⟩;have NB:=Lib.hid ((Bx.new wr #[.string (B n.name),.string (B n.text),.int .i64 n.set] 91).below hb2);have z1:=NB.out.cell 1;have ST2:=Lib.hid ((ST.out.alloc _).below hb2);clear hb2 c0 c1 c2 r0 r1 rf l1 l2)
         |(go_at_call 123;refine(hvt _ (GR.out.below ST2.out.low).tabs).mono ?_;rintro e w3 ⟨rfl,hb3⟩;have ST3:=Lib.hid (ST2.out.below hb3);clear hb3))
        go_roundw
        case rel=>exact⟨k+1,by omega,by omega,by go_num,ST3.out,fun q hq=>by
         rw [Zfl HK1.out] at hq;rcases List.mem_append.1 hq with hq|hq
         · exact HO.out q hq
         · simp only [List.mem_singleton] at hq;subst hq;exact HNK.out⟩
        case measure=>simp [intOf];omega
   · obtain rfl:k=ns.length:=by omega
     have HC:Hid (ckC v ns=true):=Lib.hid (by
      unfold ckC;rw [HU.out,decide_eq_true hk4,Bool.and_true,Bool.true_and,List.all_eq_true];have:=HO.out;rw [List.take_length] at this;exact this)
     go_wp2_with fail
     have F:=ST.out.fin (.int .i64 0) (.int .i64 0);refine bodyPost_ret (results_cell_row rfl _ _ (w.heap.size+1) _ _ _ _ rfl F.1 Tryz.underlying45 rfl (by kernel_rfl)) rfl ?_;exact HPt.out HC.out _ F.2
section
variable {ops:Array Oper} {rest:List Oper} {o:Oper} {a:Act} {Q:Exit→Act→World→Prop}
theorem Zm7 {o:Oper} {a:Act} {K:Act→World→Prop} {Q:Exit→Act→World→Prop} (s x:Operand)(ho:o.op= .call {callee:= .builtin .append,args:=#[s,x],argTypes:=#[78,78]}) (base:Nat) (v:Value) (L ys:List (List UInt8)) (hs:a.eval s=v) (W:World) (cs:Array Value) (hcs:cs=(ys.map sV).toArray) (n:Nat) (hyn:ys.length=n) (hy:1≤n) (hy2:n≤1000)
 (hown:W.ownsRow base 9 1 v L.length (L.map sV)) (hbase:base≤W.heap.size) (hlen:L.length≤16777216) (hx:a.eval x= .slice (some ⟨W.heap.size,0,none⟩) n n)
 (h:∀v' w',Hid (w'.ownsRow base 9 1 v' (L++ys).length ((L++ys).map sV))→Below base W w'→W.grownBy w' v.ownBlock→K (a.put o.dst v') w'):
 o.wp Tryz.prog a (W.alloc (.cells cs 9)) K Q:=by
 obtain⟨i0,hi,iz0,iz1,iz2⟩:=info_parts Zd0;subst hcs hyn;refine wp_append_own _ s x 78 ho base 9 i0 _ 1 16 Tryz.underlying78 hi iz0 iz1 iz2 rfl (by decide) v L.length _ hs (hown.alloc _) ⟨W.heap.size,0,none⟩ ys.length ys.length (ys.map sV) hx (by simp) (Zco W (ys.map sV) _) ?_ (by unfold maxLen;omega) (by omega) (by simp;omega) ?_
 · intro u hu;obtain⟨y,_,rfl⟩:=List.mem_map.1 hu;rfl
 · intro v6 w6 hown6 hg6 _;refine h v6 w6 (Lib.hid ?_) (Z3 ((Below.refl _ W).alloc hbase _) (hown.alloc _) hg6 (by simp;omega) (Nat.le_refl _)) ⟨hg6.os,hg6.tape,hg6.output,by have:=hg6.size;simp at this;omega,fun k hk hc=>(hg6.block k (by simp;omega) hc).trans (Below.heap_alloc _ _ _ hk)⟩;rw [List.length_append,List.map_append];exact hown6
end
theorem OwS.dn {w0 w:World} {v:Value} {l:List (List UInt8)} (h:OwS w0 w v l)(n:Nat):OwS w0 (w.drewN n) v l:=OwS.below h (below_drewN (Below.refl _ _) n)
def ZcI (n:Nx):List (List UInt8):=[Zf (n.name.length+1+n.text.length) 4,n.name,[61],n.text]
def Zb1 (v:List UInt8)(nn:Nat)(ns:List Nx):List (List UInt8):=[Zf v.length 4,v,Zf nn 4]++ns.flatMap ZcI
theorem ZjX:∀ns:List Nx,(ns.flatMap ZcI).flatten=((ns.map Nx.nt).map ZaZ).flatten
 |[]=>rfl
 |n::r=>by
  rw [List.flatMap_cons,List.flatten_append,ZjX r,List.map_cons,List.map_cons,List.flatten_cons];congr 1
  show([Zf (n.name.length+1+n.text.length) 4,n.name,[61],n.text]:List (List UInt8)).flatten=sizedB (n.name++61::n.text)
  unfold sizedB;rw [List.length_append,List.length_cons,show n.name.length+(n.text.length+1)=n.name.length+1+n.text.length by omega];simp
theorem Zpw (framed:Bool)(v:List UInt8)(ns:List Nx):(Zb1 v ns.length ns++if framed then [[1]] else []).flatten=ZC framed (bkX v ns):=by
 unfold Zb1 ZC sizedB;rw [List.flatten_append,List.flatten_append,ZjX];show _=(Zf v.length 4++v)++(Zf (ns.map Nx.nt).length 4++(((ns.map Nx.nt).map ZaZ).flatten++_))
 rw [List.length_map];cases framed<;>simp
theorem Zpx (v:List UInt8)(nn:Nat)(ns:List Nx)(k:Nat)(n:Nx)(h:ns[k]? =some n):Zb1 v nn (ns.take (k+1))=Zb1 v nn (ns.take k)++ZcI n:=by
 unfold Zb1;rw [Zfl h,List.flatMap_append,List.append_assoc];simp
theorem Zjd:∀ns:List Nx,(ns.flatMap ZcI).length=4*ns.length
 |[]=>rfl
 |n::r=>by rw [List.flatMap_cons,List.length_append,Zjd r,List.length_cons];show 4+_=_;omega
def CpV (w:World)(r:Option (List UInt8))(e:Ending)(w':World):Prop:=Below w.heap.size w w'∧match r with
 |none=>∃n a:Int,1≤n∧e= .returned (.tuple #[.string ⟨#[]⟩,.agg #[.int .i64 n,.int .i64 a]])
 |some b=>e= .returned (.tuple #[.string (B b),.agg #[.int .i64 0,.int .i64 0]])
def cpR (framed:Bool)(v:List UInt8)(ns:List Nx):Option (List UInt8):=if ckC v ns then some (ZC framed (bkX v ns)) else none
theorem CcSt.keep2 {w0 w:World} {v:List UInt8} {vs:Int} {sl:Value} (h:CcSt w0 w v vs sl):w.cell? ⟨w0.heap.size,0,none⟩=some (.string (B v))∧w.cell? ⟨w0.heap.size,2,none⟩=some sl:=⟨h.bb.cell 0,h.bb.cell 2⟩
def CpRel (w0:World)(v:List UInt8)(vs:Int)(sl:Value)(ns:List Nx)(vl i:Value)(wx:World):Prop:=∃k:Nat,k≤ns.length∧i= .int .i64 k∧CcSt w0 wx v vs sl∧OwS w0 wx vl (Zb1 v ns.length (ns.take k))
theorem ZlH (framed:Bool)(v:List UInt8)(vs:Int)(A:Option Addr)(c:Nat)(ns:List Nx)(hv:v.length≤100000)(hn:∀n∈ns,n.name.length≤100000∧n.text.length≤100000)(hsum:(ZC framed (bkX v ns)).length≤1000000000)(w:World)(hG:Grd w)(h:RdN 3 nxV w w.heap.size A ns):
 Calls Tryz.prog 31 #[.agg #[.string (B v),.int .i64 vs,.slice A ns.length c],.bool framed] w (CpV w (cpR framed v ns)):=by
 have hck:∀wx,Below w.heap.size w wx→Calls Tryz.prog 76 #[.agg #[.string (B v),.int .i64 vs,.slice A ns.length c]] wx (CkV wx (ckC v ns)):=fun wx hb=>ZhG v vs A c ns hv hn wx (hG.below hb) ((h.below hb).more hb.size);have ST0:=Lib.hid (CcSt.mk0 w v vs (.slice A ns.length c));have hbf:=fun(n a:Int) (h:1≤n) w=>Za5 n a (by omega) w;have hbt:=fun w=>ZT 0 0 rfl w;obtain⟨⟨c0,c1,c2⟩,⟨r0,r1⟩,rf,l1,l2⟩:=ST0.out.cells;have HR:=Lib.hid h;have HN:=Lib.hid hn;unfold cpR;clear h hn hG;cases hb:ckC v ns with
 |false=>
  rw [hb] at hck;unfold CkV at hck;have HPf:Hid (∀(n a:Int) w',1≤n→Below w.heap.size w w'→CpV w none (.returned (.tuple #[.string ⟨#[]⟩,.agg #[.int .i64 n,.int .i64 a]])) w'):=Lib.hid fun n a w' h1 hb=>⟨hb,n,a,h1,rfl⟩
  show Calls _ _ _ _ (CpV w none)
  generalize CpV w none=P at*;clear hb hsum HR HN hbt;go_enter Tryz.func31,Tryz.ntmps31
  go_upto_region 3 with(first
   |(go_at_call 76;refine(hck _ ST0.out.low).mono ?_;rintro e w1 ⟨n,a,rfl,h1,hb1⟩;have ST1:=Lib.hid (ST0.out.below hb1);clear hb1 hck;have H1:1≤n:=h1;clear h1)
   |(go_at_call 8;refine(hbf _ _ H1 _).mono ?_;rintro e w2 ⟨rfl,hb2⟩;have NB:=Lib.hid ((Bx.new w1 #[.int .i64 n,.int .i64 a] 45).below hb2);have z0:=NB.out.cell 0;have z1:=NB.out.cell 1;have ST2:=Lib.hid ((ST1.out.alloc _).below hb2);clear hb2 c0 c1 c2 r0 r1 rf l1 l2;obtain⟨⟨c0,c1,c2⟩,⟨r0,r1⟩,rf,l1,l2⟩:=ST2.out.cells))
  go_region
  all_goals
   go_wp2_with fail
   have F:=CcSt.fin ST2.out (.int .i64 n) (.int .i64 a);refine bodyPost_ret (Zbg rfl _ _ (w.heap.size+1) _ _ _ _ _ rfl rfl F.1 Tryz.underlying45 rfl (by kernel_rfl)) rfl ?_;exact HPf.out n a _ H1 F.2.drew
 |true=>
  rw [hb] at hck;unfold CkV at hck;have HC:Hid (ckC v ns=true):=Lib.hid hb;have hn4:ns.length≤4096:=by
   unfold ckC at hb;simp only [Bool.and_eq_true,decide_eq_true_eq] at hb;exact hb.2.2
  have HF:=Lib.hid (Zpw framed v ns);have HPt:Hid (∀w',Below w.heap.size w w'→CpV w (some (ZC framed (bkX v ns))) (.returned (.tuple #[.string (B (ZC framed (bkX v ns))),.agg #[.int .i64 0,.int .i64 0]])) w'):=Lib.hid fun w' hb=>⟨hb,rfl⟩
  show Calls _ _ _ _ (CpV w (some (ZC framed (bkX v ns))))
  generalize CpV w (some (ZC framed (bkX v ns)))=P at*;generalize ZC framed (bkX v ns)=PB at*;have hnv:=fun w=>Zfx v.length (by omega) w;have hnn:=fun w=>Zfx ns.length (by omega) w;have hsv:=Zm v;clear hb hbf;go_enter Tryz.func31,Tryz.ntmps31
  go_upto_region 4 with(first
   |(go_at_call 76;refine(hck _ ST0.out.low).mono ?_;rintro e w1 ⟨n,a,rfl,h1,hb1⟩;obtain⟨rfl,rfl⟩:n=0∧a=0:=h1;have ST1:=Lib.hid (ST0.out.below hb1);clear hb1 hck)
   |(go_at_call 8;refine(hbt _).mono ?_;rintro e w2 ⟨rfl,hb2⟩;have ST2:=Lib.hid ((ST1.out.alloc _).below hb2);clear hb2 c0 c1 c2 r0 r1 rf l1 l2;obtain⟨⟨c0,c1,c2⟩,⟨r0,r1⟩,rf,l1,l2⟩:=ST2.out.cells))
  go_cut [7] (fun s7 wx=>CcSt w wx v vs (.slice A ns.length c)∧OwS w wx s7 [Zf v.length 4,v,Zf ns.length 4])
  case first=>
   go_region_held3 (fun w'=>w'.cell? ⟨w.heap.size,0,none⟩=some (.string (B v))∧w'.cell? ⟨w.heap.size,2,none⟩=some (.slice A ns.length c))
    (first|with_reducible exact CcSt.keep2 SB2.out|with_reducible exact CcSt.keep2 SB1.out|with_reducible exact CcSt.keep2 (SB2.out.alloc _)|exact CcSt.keep2 (ST2.out.drewN 1))
    (first|(go_at_call 78;(first|((with_reducible refine(hnv _).mono ?_);rintro e wb ⟨rfl,hbb⟩)|((with_reducible refine(hnn _).mono ?_);rintro e wb ⟨rfl,hbb⟩));first|(have SB1:=Lib.hid ((ST2.out.drewN _).below hbb))|(have SB2:=Lib.hid (SB1.out.below hbb))))
   all_goals
    go_wp2_with fail
    go_meet
    exact⟨SB2.out.alloc _,World.ownsRow_lit (base:=w.heap.size+2) (e:=9) (size:=1) _ #[.string (B (Zf v.length 4)),.string (B v),.string (B (Zf ns.length 4))] 3 (by have:=SB2.out.res.lt;omega) (by decide) rfl⟩
  have STa:=Lib.hid hcut.1;have OWa:=Lib.hid hcut.2;clear hcut c0 c1 c2 r0 r1 rf l1 l2;obtain⟨⟨c0,c1,c2⟩,⟨r0,r1⟩,rf,l1,l2⟩:=STa.out.cells;go_wp2_with fail
  go_loopw [7,31] (fun vl i wx=>CpRel w v vs (.slice A ns.length c) ns vl i wx) (fun _ i _=>ns.length - (intOf i).toNat)
  case atStart=>exact⟨0,Nat.zero_le _,rfl,STa.out,OWa.out⟩
  case round=>
   obtain⟨k,hk,rfl,hst,how⟩:=hrel;obtain⟨L,hL⟩:∃L,L=Zb1 v ns.length (ns.take k):=⟨_,rfl⟩
   rw [←hL] at how;obtain⟨_,A4,c4,hv4,hc4⟩:=ZbF how;subst hv4;have ST:=Lib.hid hst;have OW:=Lib.hid how;clear hst how c0 c1 c2 r0 r1 rf l1 l2;obtain⟨⟨c0,c1,c2⟩,⟨r0,r1⟩,rf,l1,l2⟩:=ST.out.cells;have hpl:L.length≤100000:=by
    rw [hL];unfold Zb1;rw [List.length_append,Zjd,List.length_take];show 3+_≤_
    omega
   have HLe:=Lib.hid hL;clear hL;by_cases hlt:k<ns.length
   · obtain⟨n,hk1⟩:∃n,ns[k]? =some n:=⟨_,List.getElem?_eq_getElem hlt⟩
     obtain⟨hn1,hn2⟩:=HN.out n (List.mem_of_getElem? hk1);obtain⟨ad,rfl,hadb,y0,y1,y2⟩:=(HR.out.below ST.out.low).note hk1;have hbl:ad.block<wr.heap.size:=Nat.lt_of_lt_of_le hadb ST.out.low.size;have hsn:=Zm n.name;have hst:=Zm n.text;have hnm:=fun w=>Zfx (n.name.length+1+n.text.length) (by omega) w;have hq1:IntKind.i64.wrap ((n.name.length:Int)+1)=(n.name.length:Int)+1:=by rw [IntKind.wrap_i64];omega
     have hq2:IntKind.i64.wrap ((n.name.length:Int)+1+n.text.length)=((n.name.length+1+n.text.length:Nat):Int):=by rw [IntKind.wrap_i64];omega
     have HS:Hid (Zb1 v ns.length (ns.take (k+1))=L++ZcI n):=Lib.hid (by rw [Zpx v ns.length ns k n hk1,HLe.out]);have hnp:ZcI n=[Zf (n.name.length+1+n.text.length) 4,n.name,[61],n.text]:=rfl;have HNP:=Lib.hid hnp;clear hk1 hnp;clear HLe;go_upto_region 8 with fail
     have NB:Hid (Bx (wr.alloc (.cells #[.string (B n.name),.string (B n.text),.int .i64 n.set] 91)) wr.heap.size #[.string (B n.name),.string (B n.text),.int .i64 n.set] 91):=Lib.hid (Bx.new _ _ _);have ST1:=Lib.hid (ST.out.alloc (.cells #[.string (B n.name),.string (B n.text),.int .i64 n.set] 91));have OW1:=Lib.hid (OwS.below OW.out ((Below.refl _ wr).alloc (Nat.le_refl _) (.cells #[.string (B n.name),.string (B n.text),.int .i64 n.set] 91)));have HNE:Hid ((Value.slice A4 L.length c4).ownBlock≠some wr.heap.size):=Lib.hid fun e=>by have:=(World.ownsRow.lt OW.out _ e).2;omega
     clear y0 y1 y2;refine ZbM (fun w'=>w'.cell? ⟨wr.heap.size,0,none⟩=some (.string (B n.name))∧w'.cell? ⟨wr.heap.size,1,none⟩=some (.string (B n.text))) [(0,true),(1,true),(2,true),(3,true),(4,true),(5,true),(6,true),(7,true),(8,true),(9,true),(11,true),(12,true),(13,true),(14,true),(15,true),(10,false),(16,false),(17,false),(18,true)] (by kernel_rfl) (by kernel_rfl) (by kernel_rfl) (Nat.le_of_ble_eq_true rfl) (fun _ _ d _ _ h=>by cases d<;>exact h) ⟨NB.out.cell 0,NB.out.cell 1⟩ ?_
     iterate 15 (refine' ZW rfl (by rfl) _ (fun w' hSw=>_) _;rotate_left;(obtain⟨s0,s1⟩:=hSw;go_simp;try with_reducible rfl);try simp only [Act.put,List.setIfInBounds_toArray,List.set_cons_zero,List.set_cons_succ])
     refine Zac rfl (by rfl) (fun KK hKK=> ?_)
     go_simp
     go_at_call 78
     refine(hnm _).mono ?_;rintro e wb ⟨rfl,hbb⟩;have NB2:=Lib.hid (Bx.below (Bx.dn NB.out 1) hbb);have ST2:=Lib.hid ((ST1.out.drewN 1).below hbb);have OW2:=Lib.hid (OwS.below (OwS.dn OW1.out 1) hbb);clear hbb;go_wp2_with fail
     refine hKK.out _ _ ⟨NB2.out.cell 0,NB2.out.cell 1⟩ ?_;clear hKK KK
     try simp only [Act.put,List.setIfInBounds_toArray,List.set_cons_zero,List.set_cons_succ]
     refine Zac rfl (by rfl) (fun KK hKK=> ?_)
     go_simp
     go_wp2_with fail
     refine hKK.out _ _ ⟨(NB2.out.alloc _).cell 0,(NB2.out.alloc _).cell 1⟩ ?_;clear hKK KK
     try simp only [Act.put,List.setIfInBounds_toArray,List.set_cons_zero,List.set_cons_succ]
     refine Zac rfl (by rfl) (fun KK hKK=> ?_);refine Zm7 _ _ rfl (w.heap.size+2) (.slice A4 L.length c4) L (ZcI n) rfl wb _ (by rw [HNP.out];rfl) 4 rfl (by omega) (by omega) OW2.out (by have:=ST2.out.res.lt;omega) (by omega) rfl ?_;intro v6 w9 HO6 hb6 hg6;have NB3:Hid (Bx w9 wr.heap.size #[.string (B n.name),.string (B n.text),.int .i64 n.set] 91):=Lib.hid ((hg6.block _ NB2.out.lt (fun e=>HNE.out e.symm)).trans NB2.out);have SX:=Lib.hid (ST2.out.low2 hb6);clear hb6 hg6;refine hKK.out _ _ ⟨NB3.out.cell 0,NB3.out.cell 1⟩ ?_;clear hKK KK
     try simp only [Act.put,List.setIfInBounds_toArray,List.set_cons_zero,List.set_cons_succ]
     refine' ZW rfl (by rfl) _ (fun w' hSw=>_) _
     rotate_left
     · go_simp
       try with_reducible rfl
     try simp only [Act.put,List.setIfInBounds_toArray,List.set_cons_zero,List.set_cons_succ]
     refine ZbD ?_;go_wp2_with fail
     go_roundw
     case rel=>exact⟨k+1,by omega,by go_num,SX.out,by rw [HS.out];exact HO6.out⟩
     case measure=>simp [intOf];omega
   · obtain rfl:k=ns.length:=by omega
     have hLe:=HLe.out;rw [List.take_length] at hLe;have HLf:=Lib.hid hLe;clear HLe hLe;have HSm:=Lib.hid hsum;have Hpl:=Lib.hid hpl;clear hnv hnn hsum;cases framed with
     |false=>
      have hfl:L.flatten=PB:=by have:=HF.out;rw [←HLf.out] at this;simpa using this
      have hj:∀wx,OwS w wx (.slice A4 L.length c4) L→Calls Tryz.prog 19 #[.slice A4 L.length c4] wx fun e w'=>e= .returned (.string (B PB))∧Below wx.heap.size wx w':=by
       intro wx h;rw [←hfl];have h1:=HSm.out;have h2:=Hpl.out;exact Zel h (by rw [hfl];omega) (by omega)
      clear hfl hpl;go_wp2_with (go_at_call 19;refine(hj _ OW.out).mono ?_;rintro e w3 ⟨rfl,hb3⟩;have S3:=Lib.hid (ST.out.below hb3);clear hb3 c0 c1 c2 r0 r1 rf l1 l2;obtain⟨⟨c0,c1,c2⟩,⟨r0,r1⟩,rf,l1,l2⟩:=S3.out.cells)
      have F:=S3.out.fin (.int .i64 0) (.int .i64 0);refine bodyPost_ret (Zbg rfl _ _ (w.heap.size+1) _ _ _ _ _ rfl rfl F.1 Tryz.underlying45 rfl (by kernel_rfl)) rfl ?_;exact HPt.out _ F.2
     |true=>
      have hfl:(L++[[1]]).flatten=PB:=by have:=HF.out;rw [←HLf.out] at this;simpa using this
      have hj:∀wx v6,OwS w wx v6 (L++[[1]])→Calls Tryz.prog 19 #[v6] wx fun e w'=>e= .returned (.string (B PB))∧Below wx.heap.size wx w':=by
       intro wx v6 h;rw [←hfl];have h1:=HSm.out;have h2:=Hpl.out;exact Zel h (by rw [hfl];omega) (by rw [List.length_append];simp;omega)
      clear hfl hpl;have hpl:=Hpl.out;go_wp2_with (first
       |(at_builtin;refine app_s1 rfl _ _ rfl (w.heap.size+2) (.slice A4 L.length c4) L rfl wr [1] OW.out (by omega) (by omega) rfl ?_;intro v6 w9 HO6 hb6 hg6;have SX:=Lib.hid (ST.out.low2 hb6);clear hb6 hg6 c0 c1 c2 r0 r1 rf l1 l2;obtain⟨⟨c0,c1,c2⟩,⟨r0,r1⟩,rf,l1,l2⟩:=SX.out.cells)
       |(go_at_call 19;refine(hj _ _ HO6.out).mono ?_;rintro e w3 ⟨rfl,hb3⟩;have S3:=Lib.hid (SX.out.below hb3);clear hb3 c0 c1 c2 r0 r1 rf l1 l2;obtain⟨⟨c0,c1,c2⟩,⟨r0,r1⟩,rf,l1,l2⟩:=S3.out.cells))
      have F:=S3.out.fin (.int .i64 0) (.int .i64 0);refine bodyPost_ret (Zbg rfl _ _ (w.heap.size+1) _ _ _ _ _ rfl rfl F.1 Tryz.underlying45 rfl (by kernel_rfl)) rfl ?_;exact HPt.out _ F.2
theorem Zqq (w:World):(Instr.index 102 (.agg #[.string ⟨#[73,68,51]⟩,.int .i64 1,.string ⟨#[79,103,103,83]⟩,.int .i64 2,.string ⟨#[102,76,97,67]⟩,.int .i64 3]) (.int .i64 1)).run Tryz.prog w= .ok (.agg #[.string ⟨#[79,103,103,83]⟩,.int .i64 2]) w:=by
 obtain⟨info,h1,h2⟩:=Option.map_eq_some_iff.1 (show(Tryz.prog.info? 101).map (·.size)=some 2 by kernel_rfl);have hs:(Go.sizeOf 101).run Tryz.prog w= .ok 2 w:=by simp [Go.sizeOf,Ev.run_ti h1,h2]
 simp [Instr.index,asIntOf,Ev.run_und Tryz.underlying102,hs,part]
def Zal (v:List UInt8)(ns:List Nx):Bool:=ns.all (fun n=>decide (n.name.length≤50)&&decide (n.text.length≤150))&&(decide (ns.length≤30)&&decide (v.length≤150))
def LcRel (w0:World)(BA:Array Value)(ns:List Nx)(i:Value)(wx:World):Prop:=∃k:Nat,k≤ns.length∧i= .int .i64 k∧Bx wx w0.heap.size BA 33∧Below w0.heap.size w0 wx∧∀n∈ns.take k,n.name.length≤50∧n.text.length≤150
theorem Zl4 (v:List UInt8)(vs:Int)(A:Option Addr)(c:Nat)(ns:List Nx)(hn:ns.length≤9223372036854775807)(w:World)(h:RdN 3 nxV w w.heap.size A ns):
 Calls Tryz.prog 14 #[.agg #[.string (B v),.int .i64 vs,.slice A ns.length c]] w fun e w'=>e= .returned (.bool (Zal v ns))∧Below w.heap.size w w':=by
 have HP:Hid (∀(b:Bool) w',Zal v ns=b→Below w.heap.size w w'→(fun(e:Ending) (w':World)=>e=Ending.returned (.bool (Zal v ns))∧Below w.heap.size w w') (.returned (.bool b)) w'):=Lib.hid fun b w' hb h=>⟨by rw [hb],h⟩
 generalize (fun(e:Ending) (w':World)=>e=Ending.returned (.bool (Zal v ns))∧Below w.heap.size w w')=P at*;have B0:=Lib.hid (Bx.new w #[.string (B v),.int .i64 vs,.slice A ns.length c] 33);have L0:=Lib.hid ((Below.refl _ w).alloc (Nat.le_refl _) (.cells #[.string (B v),.int .i64 vs,.slice A ns.length c] 33));have HR:=Lib.hid h;have hsv:=Zm v;clear h;go_enter Tryz.func14,Tryz.ntmps14
 go_wp2_with fail
 go_loopw [8] (fun i wx=>LcRel w #[.string (B v),.int .i64 vs,.slice A ns.length c] ns i wx) (fun i _=>ns.length - (intOf i).toNat)
 case atStart=>exact⟨0,Nat.zero_le _,rfl,B0.out,L0.out,by simp⟩
 case round=>
  obtain⟨k,hk,rfl,hbx,hlo,hno⟩:=hrel;have BX:=Lib.hid hbx;have LO:=Lib.hid hlo;have HO:=Lib.hid hno;have c0:=hbx.cell 0;have c2:=hbx.cell 2;have hlt0:=hbx.lt;clear hbx hlo hno;by_cases hlt:k<ns.length
  · obtain⟨n,hk1⟩:∃n,ns[k]? =some n:=⟨_,List.getElem?_eq_getElem hlt⟩
    obtain⟨ad,rfl,hadb,y0,y1,y2⟩:=(HR.out.below LO.out).note hk1;have hbl:ad.block<wr.heap.size:=Nat.lt_of_lt_of_le hadb LO.out.size;have HK:=Lib.hid hk1;have hmem:=List.mem_of_getElem? hk1;have hs1:=Zm n.name;have hs2:=Zm n.text;clear hk1;by_cases h1:n.name.length≤50
    · have q1:decide (50<(n.name.length:Int))=false:=decide_eq_false (by omega);have q1':¬50<(n.name.length:Int):=by omega
      by_cases h2:n.text.length≤150
      · have q2:decide (150<(n.text.length:Int))=false:=decide_eq_false (by omega);have q2':¬150<(n.text.length:Int):=by omega
        have H12:=Lib.hid (And.intro h1 h2);clear h1 h2 hmem;go_wp2_with fail
        go_roundw
        case rel=>exact⟨k+1,by omega,by go_num,BX.out.alloc _,LO.out.alloc LO.out.size _,fun q hq=>by
         rw [Zfl HK.out] at hq;rcases List.mem_append.1 hq with hq|hq
         · exact HO.out q hq
         · simp only [List.mem_singleton] at hq;subst hq;exact H12.out⟩
        case measure=>simp [intOf];omega
      · have q2:decide (150<(n.text.length:Int))=true:=decide_eq_true (by omega);have q2':150<(n.text.length:Int):=by omega
        have HQ:Hid (Zal v ns=false):=Lib.hid (by
         have:ns.all (fun n=>decide (n.name.length≤50)&&decide (n.text.length≤150))=false:=by
          rw [List.all_eq_false];exact⟨n,hmem,by simp;omega⟩
         unfold Zal;rw [this];rfl)
        clear h1 h2 hmem;go_wp2_with fail
        exact HP.out false _ HQ.out (LO.out.alloc LO.out.size _)
    · have q1:decide (50<(n.name.length:Int))=true:=decide_eq_true (by omega);have q1':50<(n.name.length:Int):=by omega
      have HQ:Hid (Zal v ns=false):=Lib.hid (by
       have:ns.all (fun n=>decide (n.name.length≤50)&&decide (n.text.length≤150))=false:=by
        rw [List.all_eq_false];exact⟨n,hmem,by simp;omega⟩
       unfold Zal;rw [this];rfl)
      clear h1 hmem;go_wp2_with fail
      exact HP.out false _ HQ.out (LO.out.alloc LO.out.size _)
  · obtain rfl:k=ns.length:=by omega
    have hall:ns.all (fun n=>decide (n.name.length≤50)&&decide (n.text.length≤150))=true:=by
     rw [List.all_eq_true];have:=HO.out;rw [List.take_length] at this;intro q hq;have:=this q hq;simp;exact this
    have HQ:Hid (Zal v ns=(decide (ns.length≤30)&&decide (v.length≤150))):=Lib.hid (by unfold Zal;rw [hall];rfl);clear hall;by_cases h1:ns.length≤30
    · have q1:decide ((ns.length:Int)≤30)=true:=decide_eq_true (by omega);by_cases h2:v.length≤150
      · have q2:decide ((v.length:Int)≤150)=true:=decide_eq_true (by omega);have HQ2:Hid (Zal v ns=true):=Lib.hid (by rw [HQ.out,decide_eq_true h1,decide_eq_true h2];rfl);clear h1 h2 HQ;go_wp2_with fail
        exact HP.out true _ HQ2.out LO.out
      · have q2:decide ((v.length:Int)≤150)=false:=decide_eq_false (by omega);have HQ2:Hid (Zal v ns=false):=Lib.hid (by rw [HQ.out,decide_eq_true h1,decide_eq_false h2];rfl);clear h1 h2 HQ;go_wp2_with fail
        exact HP.out false _ HQ2.out LO.out
    · have q1:decide ((ns.length:Int)≤30)=false:=decide_eq_false (by omega);have HQ2:Hid (Zal v ns=false):=Lib.hid (by rw [HQ.out,decide_eq_false h1];rfl);clear h1 HQ;go_wp2_with fail
      exact HP.out false _ HQ2.out LO.out
end Go.Proofs.YtnbkfkbcpfkddaaGreatDoor
