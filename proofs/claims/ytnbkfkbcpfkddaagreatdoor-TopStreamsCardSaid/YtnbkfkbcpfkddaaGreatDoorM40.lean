/- Lemmas for a statement on the tops; conditions: as each says. -/
import Derived.Test.YtnbkfkbcpfkddaaGreatDoorM39
set_option linter.unusedVariables false
set_option linter.unusedSimpArgs false
set_option maxRecDepth 100000
set_option maxHeartbeats 1000000
namespace Go.Proofs.YtnbkfkbcpfkddaaGreatDoor
open Go Go.RowKit
theorem ZdD {o:Oper} {a:Act} {K:Act→World→Prop} {Q:Exit→Act→World→Prop} (s x:Operand)(ho:o.op= .call {callee:= .builtin .append,args:=#[s,x],argTypes:=#[34,34]}) (base:Nat) (v:Value) (L M:List Pg) (hs:a.eval s=v) (W:World) (A:Option Addr) (c:Nat)
 (hown:W.ownsRow base 27 6 v L.length (L.flatMap pgL)) (hbase:base≤W.heap.size) (hlen:L.length≤16777216) (hM:0<M.length∧M.length≤16777216) (hx:a.eval x= .slice A M.length c) {B0:Nat} (hr:Zg pgL B0 W (.slice A M.length c) M)
 (h:∀v' w',Hid (w'.ownsRow base 27 6 v' (L++M).length ((L++M).flatMap pgL))→Below base W w'→K (a.put o.dst v') w'):
 o.wp Tryz.prog a W K Q:=by
 obtain⟨i0,hi,iz0,iz1,iz2⟩:=info_parts ZgR;rcases hr with⟨h0,_⟩|⟨bk,c',h0,hv,hlc,hge,hlt,hcl⟩
 · rw [h0] at hM;exact absurd hM.1 (by simp)
 · simp only [Value.slice.injEq] at hv;obtain⟨rfl,_,rfl⟩:=hv;have hM2:=hM.2;refine wp_append_own _ s x 34 ho base 27 i0 _ 6 56 Tryz.underlying34 hi iz0 iz1 iz2 rfl (by decide) v L.length _ hs hown ⟨bk,0,none⟩ M.length c (M.flatMap pgL) hx (ZgT M) (fun j u hu=>by
    have hadd:(⟨bk,0,none⟩:Addr).add j=⟨bk,j,none⟩:=by unfold Addr.add;split<;>simp_all
    rw [hadd];exact hcl j u hu) (fun u hu=>by obtain⟨p,_,hp⟩:=List.mem_flatMap.1 hu;exact ZgP p u hp) (by unfold maxLen;omega) (by omega) hbase ?_
   intro v6 w6 hown6 hg6 _;refine h v6 w6 (Lib.hid ?_) (Z3 (Below.refl _ W) hown hg6 hbase (Nat.le_refl _));rw [List.flatMap_append,List.length_append];exact hown6
theorem ZdX {w:World} {b b':Nat} {e:TypeId} {m n:Nat} {xs:List Value} {v:Value} (h:w.ownsRow b e m v n xs)(hb:b'≤b):w.ownsRow b' e m v n xs:=
 ⟨h.1,h.2.imp id fun⟨g,cap,cur,e1,e2,r⟩=>⟨g,cap,cur,e1,Nat.le_trans hb e2,r⟩⟩
theorem OkSt.low2 {w wx wy:World} {XA:Array Value} (h:OkSt w wx XA)(hb:Below (w.heap.size+2) wx wy):OkSt w wy XA:=⟨h.x.same6 hb (by omega),h.r.same6 hb (by omega),h.low.trans (hb.mono (by omega))⟩
def Zcv (w:World)(x:Sx)(e:Ending)(w':World):Prop:=Below w.heap.size w w'∧if ckS x then∃v,e= .returned (.tuple #[v,.agg #[.int .i64 0,.int .i64 0]])∧Zg pgL w.heap.size w' v (ZO x) else∃n a:Int,1≤n∧e= .returned (.tuple #[.slice none 0 0,.agg #[.int .i64 n,.int .i64 a]])
def OlRel (w:World)(XA:Array Value)(L0 sound:List Pg)(v i:Value)(wx:World):Prop:=∃k:Nat,k≤sound.length∧i= .int .i64 k∧OkSt w wx XA∧wx.ownsRow (w.heap.size+2) 27 6 v (L0++Zt L0.length (sound.take k)).length ((L0++Zt L0.length (sound.take k)).flatMap pgL)
theorem Zma (x:Sx)(hl:LightO x)(ht:SxTy x)(vs:Int)(A AN:Option Addr)(c cN:Nat)(w:World)(hG:Grd w)(h:RdN 6 pgL w w.heap.size A x.sound)(h2:RdN 3 nxV w w.heap.size AN x.ns):
 Calls Tryz.prog 17 #[.agg (stV x.first x.v vs (.slice AN x.ns.length cN) x.setup (.slice A x.sound.length c))] w (Zcv w x):=by
 have hck:∀wx,Below w.heap.size w wx→Calls Tryz.prog 30 #[.agg (stV x.first x.v vs (.slice AN x.ns.length cN) x.setup (.slice A x.sound.length c))] wx (CkV wx (ckS x)):=fun wx hb=>Zl9 x hl ht vs A AN c cN wx (hG.below hb) ((h.below hb).more hb.size) ((h2.below hb).more hb.size);unfold CkV at hck;have S0:=Lib.hid (OkSt.mk0 w (stV x.first x.v vs (.slice AN x.ns.length cN) x.setup (.slice A x.sound.length c)));obtain⟨⟨c0,c1,c2,c3,c4,c5,c6,c7,c8,c9,c10⟩,⟨r0,r1⟩,rf,l1,l2⟩:=S0.out.cells;have HR:=Lib.hid h;cases hb:ckS x with
 |false=>
  rw [hb] at hck;have hbf:=fun(n a:Int) (h:1≤n) w=>Za5 n a (by omega) w;have HPf:Hid (∀(n a:Int) w',1≤n→Below w.heap.size w w'→Zcv w x (.returned (.tuple #[.slice none 0 0,.agg #[.int .i64 n,.int .i64 a]])) w'):=Lib.hid fun n a w' h1 h2=>⟨h2,by rw [hb];exact⟨n,a,h1,rfl⟩⟩
  generalize Zcv w x=P at*;clear hb h h2 hG hl ht;unfold stV at*;go_enter Tryz.func17,Tryz.ntmps17
  go_upto_region 3 with(first
   |(go_at_call 30;(with_reducible refine(hck _ S0.out.low).mono ?_);rintro e w1 ⟨n,a,rfl,h1,hb1⟩;have H1:1≤n:=h1;have S1:=Lib.hid ((S0.out.below hb1).alloc (.cells #[.int .i64 n,.int .i64 a] 45));have X1:=Lib.hid (Bx.new w1 #[.int .i64 n,.int .i64 a] 45);clear hb1 h1)
   |(go_at_call 8;(with_reducible refine(hbf _ _ H1 _).mono ?_);rintro e w2 ⟨rfl,hb2⟩;have S2:=Lib.hid (S1.out.below hb2);have X2:=Lib.hid (X1.out.below hb2);have z0:=X2.out.cell 0;have z1:=X2.out.cell 1;clear hb2;clear c0 c1 c2 c3 c4 c5 c6 c7 c8 c9 c10 r0 r1 rf l1 l2;obtain⟨⟨c0,c1,c2,c3,c4,c5,c6,c7,c8,c9,c10⟩,⟨r0,r1⟩,rf,l1,l2⟩:=S2.out.cells))
  go_region
  all_goals
   go_wp2_with fail
   have F:=S2.out.fin (.int .i64 n) (.int .i64 a);refine bodyPost_ret (Zbg rfl _ _ (w.heap.size+1) _ _ _ _ _ rfl rfl F.1 Tryz.underlying45 rfl (by kernel_rfl)) rfl ?_;exact HPf.out n a _ H1 F.2.drew
 |true=>
  rw [hb] at hck;have hc:=ZcY.1 hb;have hbt:=fun w=>ZT 0 0 rfl w;have hcp:∀wx,Below w.heap.size w wx→Calls Tryz.prog 31 #[.agg #[.string (B x.v),.int .i64 vs,.slice AN x.ns.length cN],.bool true] wx fun e w'=>Below wx.heap.size wx w'∧e= .returned (.tuple #[.string (B (ZC true (bkX x.v x.ns))),.agg #[.int .i64 0,.int .i64 0]]):=fun wx hb=>by
   have:=ZlH true x.v vs AN cN x.ns (by have:=hl.vend;omega) (fun n hn=>by have:=hl.note n hn;omega) (by have:=ZgY hl.nsl hl.vend hl.note;omega) wx (hG.below hb) ((h2.below hb).more hb.size);unfold cpR CpV at this;rw [if_pos hc.blk] at this;exact this
  have hjn:∀(wx:World) (K:Nat),wx.cell? ⟨K,0,none⟩=some (.string ⟨#[3,118,111,114,98,105,115]⟩)→wx.cell? ⟨K,1,none⟩=some (.string (B (ZC true (bkX x.v x.ns))))→Calls Tryz.prog 19 #[.slice (some ⟨K,0,none⟩) 2 2] wx fun e w'=>e= .returned (.string (B (Z4 x)))∧Below wx.heap.size wx w':=fun wx K h0 h1=>by
   have hln:=ZgY hl.nsl hl.vend hl.note;have:=Zek K 2 [Zad,ZC true (bkX x.v x.ns)] wx (fun j y hy=>by
    match j,hy with
    |0,hy=>simp at hy;subst hy;exact h0
    |1,hy=>simp at hy;subst hy;exact h1
    |j+2,hy=>simp at hy) (by simp) (by simp) (by simp [Zad];omega) (by simp)
   simpa [Z4] using this
  have hpk:∀(wx:World) (K:Nat),K<wx.heap.size→wx.cell? ⟨K,0,none⟩=some (.string (B (Z4 x)))→wx.cell? ⟨K,1,none⟩=some (.string (B x.setup))→Calls Tryz.prog 32 #[.agg #[.int .u8 0,.int .u64 0,.int .u32 (x.first.ser:Nat),.int .u32 1],.slice (some ⟨K,0,none⟩) 2 2] wx (Zen wx (Zn x)):=fun wx K hK h0 h1=>by
   have hbl:=Zf3 hl;have hst:=hl.set;exact Zmp x.first.ser ht.first.ser K [Z4 x,x.setup] (by simp) (by simp) (by simp;omega) wx hK (fun j y hy=>by
    match j,hy with
    |0,hy=>simp at hy;subst hy;exact h0
    |1,hy=>simp at hy;subst hy;exact h1
    |j+2,hy=>simp at hy)
  unfold Zen at hpk;have hml:=ZjP hl;have hmp:=ZjQ x;have HM:Hid (0<(Zn x).length∧(Zn x).length≤16777216):=Lib.hid ⟨hmp,by omega⟩;have hn10:=hl.snl;have HPt:Hid (∀v w',Zg pgL w.heap.size w' v (ZO x)→Below w.heap.size w w'→Zcv w x (.returned (.tuple #[v,.agg #[.int .i64 0,.int .i64 0]])) w'):=Lib.hid fun v w' h1 h2=>⟨h2,by rw [hb];exact⟨v,rfl,h1⟩⟩
  generalize Zcv w x=P at*;generalize hPC:ZC true (bkX x.v x.ns)=PC at*;generalize hBLK:Z4 x=BLK at*;clear hPC hBLK hb h h2 hG hl ht hc;unfold stV at*;go_enter Tryz.func17,Tryz.ntmps17
  go_upto_region 8 with(first
   |(go_at_call 30;(with_reducible refine(hck _ S0.out.low).mono ?_);rintro e w1 ⟨n,a,rfl,h1,hb1⟩;obtain⟨rfl,rfl⟩:n=0∧a=0:=h1;have S1:=Lib.hid ((S0.out.below hb1).alloc (.cells #[.int .i64 0,.int .i64 0] 45));clear hb1)
   |(go_at_call 31;(with_reducible refine(hcp _ S2.out.low).mono ?_);rintro e w3 ⟨hb3,rfl⟩;have S3:=Lib.hid ((S2.out.below hb3).alloc (.cells #[.int .i64 0,.int .i64 0] 45));clear hb3)
   |(go_at_call 8;(with_reducible refine(hbt _).mono ?_);rintro e w2 ⟨rfl,hb2⟩;first|(have S4:=Lib.hid (S3.out.below hb2);clear hb2;clear c0 c1 c2 c3 c4 c5 c6 c7 c8 c9 c10 r0 r1 rf l1 l2;obtain⟨⟨c0,c1,c2,c3,c4,c5,c6,c7,c8,c9,c10⟩,⟨r0,r1⟩,rf,l1,l2⟩:=S4.out.cells)|(have S2:=Lib.hid (S1.out.below hb2);clear hb2;clear c0 c1 c2 c3 c4 c5 c6 c7 c8 c9 c10 r0 r1 rf l1 l2;obtain⟨⟨c0,c1,c2,c3,c4,c5,c6,c7,c8,c9,c10⟩,⟨r0,r1⟩,rf,l1,l2⟩:=S2.out.cells)))
  have ST0:=Lib.hid (S4.out.alloc (.cells #[.int .u8 0,.int .u64 0,.int .u32 (x.first.ser:Nat),.int .u32 1] 25));have HB0:=Lib.hid (Bx.new _ #[.int .u8 0,.int .u64 0,.int .u32 (x.first.ser:Nat),.int .u32 1] 25:Bx (World.alloc w2 _) w2.heap.size _ _);have hWS:w.heap.size+2≤w2.heap.size:=S4.out.r.lt;generalize hW0:World.alloc w2 (.cells #[.int .u8 0,.int .u64 0,.int .u32 (x.first.ser:Nat),.int .u32 1] 25)=W0 at*;have hHW:w2.heap.size<W0.heap.size:=by rw [←hW0,World.size_alloc];omega
  generalize w2.heap.size=H at*;have HWS:Hid (w.heap.size+2≤W0.heap.size):=Lib.hid (by omega);clear c0 c1 c2 c3 c4 c5 c6 c7 c8 c9 c10 r0 r1 rf l1 l2;obtain⟨⟨c0,c1,c2,c3,c4,c5,c6,c7,c8,c9,c10⟩,⟨r0,r1⟩,rf,l1,l2⟩:=ST0.out.cells;go_cut [8] (fun s8 wx=>OkSt w wx (stV x.first x.v vs (.slice AN x.ns.length cN) x.setup (.slice A x.sound.length c))∧wx.ownsRow (w.heap.size+2) 27 6 s8 ([x.first]++Zn x).length (([x.first]++Zn x).flatMap pgL))
  case first=>
   have HS2:Hid (∀wx:World,(∀q,q<w.heap.size+2→wx.heap[q]? =W0.heap[q]?)→wx.heap[H]? =W0.heap[H]?→wx.cell? ⟨w.heap.size,0,none⟩=some (.int .u8 x.first.fl.toNat)∧wx.cell? ⟨w.heap.size,1,none⟩=some (.int .u64 (x.first.pos:Nat))∧wx.cell? ⟨w.heap.size,2,none⟩=some (.int .u32 (x.first.ser:Nat))∧wx.cell? ⟨w.heap.size,3,none⟩=some (.int .u32 (x.first.num:Nat))∧wx.cell? ⟨w.heap.size,4,none⟩=some (.string (B x.first.laces))∧wx.cell? ⟨w.heap.size,5,none⟩=some (.string (B x.first.body))∧wx.cell? ⟨w.heap.size,9,none⟩=some (.string (B x.setup))∧wx.cell? ⟨H,0,none⟩=some (.int .u8 0)∧wx.cell? ⟨H,1,none⟩=some (.int .u64 0)∧wx.cell? ⟨H,2,none⟩=some (.int .u32 (x.first.ser:Nat))∧wx.cell? ⟨H,3,none⟩=some (.int .u32 1)):=Lib.hid fun wx hq hH=>by
    have e:∀j:Nat,wx.cell? ⟨w.heap.size,j,none⟩=W0.cell? ⟨w.heap.size,j,none⟩:=fun j=>by simp only [World.cell?,hq w.heap.size (by omega)]
    have e2:∀j:Nat,wx.cell? ⟨H,j,none⟩=W0.cell? ⟨H,j,none⟩:=fun j=>by simp only [World.cell?,hH]
    simp only [e,e2];exact⟨c0,c1,c2,c3,c4,c5,c9,HB0.out.cell 0,HB0.out.cell 1,HB0.out.cell 2,HB0.out.cell 3⟩
   have HS:Hid (∀wx,Below W0.heap.size W0 wx→wx.cell? ⟨w.heap.size,0,none⟩=some (.int .u8 x.first.fl.toNat)∧wx.cell? ⟨w.heap.size,1,none⟩=some (.int .u64 (x.first.pos:Nat))∧wx.cell? ⟨w.heap.size,2,none⟩=some (.int .u32 (x.first.ser:Nat))∧wx.cell? ⟨w.heap.size,3,none⟩=some (.int .u32 (x.first.num:Nat))∧wx.cell? ⟨w.heap.size,4,none⟩=some (.string (B x.first.laces))∧wx.cell? ⟨w.heap.size,5,none⟩=some (.string (B x.first.body))∧wx.cell? ⟨w.heap.size,9,none⟩=some (.string (B x.setup))∧wx.cell? ⟨H,0,none⟩=some (.int .u8 0)∧wx.cell? ⟨H,1,none⟩=some (.int .u64 0)∧wx.cell? ⟨H,2,none⟩=some (.int .u32 (x.first.ser:Nat))∧wx.cell? ⟨H,3,none⟩=some (.int .u32 1)):=Lib.hid fun wx hb=>HS2.out wx (fun q hq=>hb.block q (by have:=HWS.out;omega)) (hb.block H hHW);have B0:Hid (Below W0.heap.size W0 W0.drew):=Lib.hid (below_drewN (Below.refl _ _) 1);refine Zcr (fun w'=>w'.cell? ⟨w.heap.size,0,none⟩=some (.int .u8 x.first.fl.toNat)∧w'.cell? ⟨w.heap.size,1,none⟩=some (.int .u64 (x.first.pos:Nat))∧w'.cell? ⟨w.heap.size,2,none⟩=some (.int .u32 (x.first.ser:Nat))∧w'.cell? ⟨w.heap.size,3,none⟩=some (.int .u32 (x.first.num:Nat))∧w'.cell? ⟨w.heap.size,4,none⟩=some (.string (B x.first.laces))∧w'.cell? ⟨w.heap.size,5,none⟩=some (.string (B x.first.body))∧w'.cell? ⟨w.heap.size,9,none⟩=some (.string (B x.setup))∧w'.cell? ⟨H,0,none⟩=some (.int .u8 0)∧w'.cell? ⟨H,1,none⟩=some (.int .u64 0)∧w'.cell? ⟨H,2,none⟩=some (.int .u32 (x.first.ser:Nat))∧w'.cell? ⟨H,3,none⟩=some (.int .u32 1)) (.one 0 true (.one 1 true (.one 3 true (.one 4 true (.one 7 true (.one 8 true (.two 2 5 (.one 5 false (.one 6 false (.one 9 false (.one 10 false (.one 11 false (.one 12 true .nil)))))) (.two 2 6 (.one 6 false (.one 9 false (.one 10 false (.one 11 false (.one 12 true .nil))))) (.two 2 9 (.one 9 false (.one 10 false (.one 11 false (.one 12 true .nil)))) (.two 2 10 (.one 10 false (.one 11 false (.one 12 true .nil))) (.one 2 false (.one 11 false (.one 12 true .nil))))))))))))) (by kernel_rfl) (by kernel_rfl) (by kernel_rfl) (Nat.le_of_ble_eq_true rfl) (fun _ _ d _ _ h=>by cases d<;>exact h) (HS.out _ B0.out) ?_
   iterate 6 (refine' Zs rfl (by rfl) _ (fun w' hSw=>_) _;rotate_left;(obtain⟨s0,s1,s2,s3,s4,s5,s6,s7,s8,s9,s10⟩:=hSw;go_simp;try with_reducible rfl);try simp only [Act.put,List.setIfInBounds_toArray,List.set_cons_zero,List.set_cons_succ])
   generalize W0.drew=Wd at*;refine Zbf (Ze rfl (by rfl) (fun KK hKK=> ?_)) (Ze rfl (by rfl) (fun KK hKK=> ?_))
   · go_simp
     go_wp2_with fail
     have D1:Below Wd.heap.size Wd (Wd.alloc (.cells #[.int .u8 x.first.fl.toNat,.int .u64 (x.first.pos:Nat),.int .u32 (x.first.ser:Nat),.int .u32 (x.first.num:Nat),.string (B x.first.laces),.string (B x.first.body)] 27)):=(Below.refl _ _).alloc (Nat.le_refl _) _;have O1:=Lib.hid (World.ownsRow_lit (base:=W0.heap.size) (e:=27) (size:=6) Wd #[.int .u8 x.first.fl.toNat,.int .u64 (x.first.pos:Nat),.int .u32 (x.first.ser:Nat),.int .u32 (x.first.num:Nat),.string (B x.first.laces),.string (B x.first.body)] 1 B0.out.size (by decide) rfl);have B1:=Lib.hid (B0.out.trans (D1.mono B0.out.size));refine hKK.out _ _ (HS.out _ B1.out) ?_;clear hKK KK D1
     try simp only [Act.put,List.setIfInBounds_toArray,List.set_cons_zero,List.set_cons_succ]
     generalize (Wd.alloc (.cells #[.int .u8 x.first.fl.toNat,.int .u64 (x.first.pos:Nat),.int .u32 (x.first.ser:Nat),.int .u32 (x.first.num:Nat),.string (B x.first.laces),.string (B x.first.body)] 27))=W1 at*;refine Zl (Ze rfl (by rfl) (fun KK hKK=> ?_))
     go_simp
     go_wp2_with fail
     have D3:Below W1.heap.size W1 (W1.alloc (.cells #[.string ⟨#[3,118,111,114,98,105,115]⟩,.string (B PC)] 9)):=(Below.refl _ _).alloc (Nat.le_refl _) _;have Y3:=Lib.hid (Bx.new W1 #[.string ⟨#[3,118,111,114,98,105,115]⟩,.string (B PC)] 9);have B3:=Lib.hid (B1.out.trans (D3.mono B1.out.size));have O3:=Lib.hid (Zo O1.out D3);refine hKK.out _ _ (HS.out _ B3.out) ?_;clear hKK KK D3
     try simp only [Act.put,List.setIfInBounds_toArray,List.set_cons_zero,List.set_cons_succ]
     generalize (W1.alloc (.cells #[.string ⟨#[3,118,111,114,98,105,115]⟩,.string (B PC)] 9))=W3 at*;refine Zl (Ze rfl (by rfl) (fun KK hKK=> ?_))
     go_simp
     go_at_call 19
     refine(hjn W3 W1.heap.size (Y3.out.cell 0) (Y3.out.cell 1)).mono ?_;rintro e wj4 ⟨rfl,D4⟩;go_wp2_with fail
     have B4:=Lib.hid (B3.out.trans (D4.mono B3.out.size));have O4:=Lib.hid (Zo O3.out D4);have Y4:=Lib.hid (Y3.out.below D4);refine hKK.out _ _ (HS.out _ B4.out) ?_;clear hKK KK D4
     try simp only [Act.put,List.setIfInBounds_toArray,List.set_cons_zero,List.set_cons_succ]
     refine Zl (Ze rfl (by rfl) (fun KK hKK=> ?_))
     go_simp
     go_wp2_with fail
     have D5:Below wj4.heap.size wj4 (wj4.alloc (.cells #[.string (B BLK),.string (B x.setup)] 9)):=(Below.refl _ _).alloc (Nat.le_refl _) _;have Y5:=Lib.hid (Bx.new wj4 #[.string (B BLK),.string (B x.setup)] 9);have B5:=Lib.hid (B4.out.trans (D5.mono B4.out.size));have O5:=Lib.hid (Zo O4.out D5);refine hKK.out _ _ (HS.out _ B5.out) ?_;clear hKK KK D5
     try simp only [Act.put,List.setIfInBounds_toArray,List.set_cons_zero,List.set_cons_succ]
     generalize (wj4.alloc (.cells #[.string (B BLK),.string (B x.setup)] 9))=W5 at*;refine Zl (Ze rfl (by rfl) (fun KK hKK=> ?_))
     go_simp
     go_at_call 32
     refine(hpk W5 wj4.heap.size Y5.out.lt (Y5.out.cell 0) (Y5.out.cell 1)).mono ?_;rintro e wp6 ⟨v6,rfl,hr6,D6⟩;obtain⟨A6,c6,hv6,hc6⟩:=hr6.len;subst hv6;have R6:=Lib.hid hr6;clear hr6;go_wp2_with fail
     have B6:=Lib.hid (B5.out.trans (D6.mono B5.out.size));have O6:=Lib.hid (Zo O5.out D6);have Y6:=Lib.hid (Y5.out.below D6);refine hKK.out _ _ (HS.out _ B6.out) ?_;clear hKK KK D6
     try simp only [Act.put,List.setIfInBounds_toArray,List.set_cons_zero,List.set_cons_succ]
     refine Zl (Ze rfl (by rfl) (fun KK hKK=> ?_));refine ZdD _ _ rfl W0.heap.size (.slice (some ⟨Wd.heap.size,0,none⟩) 1 1) [x.first] (Zn x) rfl wp6 _ _ O6.out B6.out.size (by simp) HM.out rfl R6.out ?_;intro v8 w8 HO8 hb8;have B9:=Lib.hid (B6.out.trans hb8);refine hKK.out _ _ (HS.out _ B9.out) ?_;clear hKK KK
     try simp only [Act.put,List.setIfInBounds_toArray,List.set_cons_zero,List.set_cons_succ]
     iterate 1 (refine' Zs rfl (by rfl) _ (fun w' hSw=>_) _;rotate_left;(obtain⟨s0,s1,s2,s3,s4,s5,s6,s7,s8,s9,s10⟩:=hSw;go_simp;try with_reducible rfl);try simp only [Act.put,List.setIfInBounds_toArray,List.set_cons_zero,List.set_cons_succ])
     refine Zae ?_;go_wp2_with fail
     go_meet
     exact⟨ST0.out.below B9.out,ZdX HO8.out HWS.out⟩
   · go_simp
     go_wp2_with fail
     have D2:Below Wd.heap.size Wd (Wd.alloc (.cells #[.string ⟨#[3,118,111,114,98,105,115]⟩,.string (B PC)] 9)):=(Below.refl _ _).alloc (Nat.le_refl _) _;have Y2:=Lib.hid (Bx.new Wd #[.string ⟨#[3,118,111,114,98,105,115]⟩,.string (B PC)] 9);have B2:=Lib.hid (B0.out.trans (D2.mono B0.out.size));refine hKK.out _ _ (HS.out _ B2.out) ?_;clear hKK KK D2
     try simp only [Act.put,List.setIfInBounds_toArray,List.set_cons_zero,List.set_cons_succ]
     generalize (Wd.alloc (.cells #[.string ⟨#[3,118,111,114,98,105,115]⟩,.string (B PC)] 9))=W2 at*;refine Zbf (Ze rfl (by rfl) (fun KK hKK=> ?_)) (Ze rfl (by rfl) (fun KK hKK=> ?_))
     · go_simp
       go_wp2_with fail
       have D7:Below W2.heap.size W2 (W2.alloc (.cells #[.int .u8 x.first.fl.toNat,.int .u64 (x.first.pos:Nat),.int .u32 (x.first.ser:Nat),.int .u32 (x.first.num:Nat),.string (B x.first.laces),.string (B x.first.body)] 27)):=(Below.refl _ _).alloc (Nat.le_refl _) _;have O7:=Lib.hid (World.ownsRow_lit (base:=W0.heap.size) (e:=27) (size:=6) W2 #[.int .u8 x.first.fl.toNat,.int .u64 (x.first.pos:Nat),.int .u32 (x.first.ser:Nat),.int .u32 (x.first.num:Nat),.string (B x.first.laces),.string (B x.first.body)] 1 B2.out.size (by decide) rfl);have B7:=Lib.hid (B2.out.trans (D7.mono B2.out.size));have Y7:=Lib.hid (Y2.out.below D7);refine hKK.out _ _ (HS.out _ B7.out) ?_;clear hKK KK D7
       try simp only [Act.put,List.setIfInBounds_toArray,List.set_cons_zero,List.set_cons_succ]
       generalize (W2.alloc (.cells #[.int .u8 x.first.fl.toNat,.int .u64 (x.first.pos:Nat),.int .u32 (x.first.ser:Nat),.int .u32 (x.first.num:Nat),.string (B x.first.laces),.string (B x.first.body)] 27))=W7 at*;refine Zl (Ze rfl (by rfl) (fun KK hKK=> ?_))
       go_simp
       go_at_call 19
       refine(hjn W7 Wd.heap.size (Y7.out.cell 0) (Y7.out.cell 1)).mono ?_;rintro e wj9 ⟨rfl,D9⟩;go_wp2_with fail
       have B9:=Lib.hid (B7.out.trans (D9.mono B7.out.size));have O9:=Lib.hid (Zo O7.out D9);have Y9:=Lib.hid (Y7.out.below D9);refine hKK.out _ _ (HS.out _ B9.out) ?_;clear hKK KK D9
       try simp only [Act.put,List.setIfInBounds_toArray,List.set_cons_zero,List.set_cons_succ]
       refine Zl (Ze rfl (by rfl) (fun KK hKK=> ?_))
       go_simp
       go_wp2_with fail
       have D10:Below wj9.heap.size wj9 (wj9.alloc (.cells #[.string (B BLK),.string (B x.setup)] 9)):=(Below.refl _ _).alloc (Nat.le_refl _) _;have Y10:=Lib.hid (Bx.new wj9 #[.string (B BLK),.string (B x.setup)] 9);have B10:=Lib.hid (B9.out.trans (D10.mono B9.out.size));have O10:=Lib.hid (Zo O9.out D10);refine hKK.out _ _ (HS.out _ B10.out) ?_;clear hKK KK D10
       try simp only [Act.put,List.setIfInBounds_toArray,List.set_cons_zero,List.set_cons_succ]
       generalize (wj9.alloc (.cells #[.string (B BLK),.string (B x.setup)] 9))=W10 at*;refine Zl (Ze rfl (by rfl) (fun KK hKK=> ?_))
       go_simp
       go_at_call 32
       refine(hpk W10 wj9.heap.size Y10.out.lt (Y10.out.cell 0) (Y10.out.cell 1)).mono ?_;rintro e wp11 ⟨v11,rfl,hr11,D11⟩;obtain⟨A11,c11,hv11,hc11⟩:=hr11.len;subst hv11;have R11:=Lib.hid hr11;clear hr11;go_wp2_with fail
       have B11:=Lib.hid (B10.out.trans (D11.mono B10.out.size));have O11:=Lib.hid (Zo O10.out D11);have Y11:=Lib.hid (Y10.out.below D11);refine hKK.out _ _ (HS.out _ B11.out) ?_;clear hKK KK D11
       try simp only [Act.put,List.setIfInBounds_toArray,List.set_cons_zero,List.set_cons_succ]
       refine Zl (Ze rfl (by rfl) (fun KK hKK=> ?_));refine ZdD _ _ rfl W0.heap.size (.slice (some ⟨W2.heap.size,0,none⟩) 1 1) [x.first] (Zn x) rfl wp11 _ _ O11.out B11.out.size (by simp) HM.out rfl R11.out ?_;intro v8 w8 HO8 hb8;have B9:=Lib.hid (B11.out.trans hb8);refine hKK.out _ _ (HS.out _ B9.out) ?_;clear hKK KK
       try simp only [Act.put,List.setIfInBounds_toArray,List.set_cons_zero,List.set_cons_succ]
       iterate 1 (refine' Zs rfl (by rfl) _ (fun w' hSw=>_) _;rotate_left;(obtain⟨s0,s1,s2,s3,s4,s5,s6,s7,s8,s9,s10⟩:=hSw;go_simp;try with_reducible rfl);try simp only [Act.put,List.setIfInBounds_toArray,List.set_cons_zero,List.set_cons_succ])
       refine Zae ?_;go_wp2_with fail
       go_meet
       exact⟨ST0.out.below B9.out,ZdX HO8.out HWS.out⟩
     · go_simp
       go_at_call 19
       refine(hjn W2 Wd.heap.size (Y2.out.cell 0) (Y2.out.cell 1)).mono ?_;rintro e wj8 ⟨rfl,D8⟩;go_wp2_with fail
       have B8:=Lib.hid (B2.out.trans (D8.mono B2.out.size));have Y8:=Lib.hid (Y2.out.below D8);refine hKK.out _ _ (HS.out _ B8.out) ?_;clear hKK KK D8
       try simp only [Act.put,List.setIfInBounds_toArray,List.set_cons_zero,List.set_cons_succ]
       refine Zbf (Ze rfl (by rfl) (fun KK hKK=> ?_)) (Ze rfl (by rfl) (fun KK hKK=> ?_))
       · go_simp
         go_wp2_with fail
         have D12:Below wj8.heap.size wj8 (wj8.alloc (.cells #[.int .u8 x.first.fl.toNat,.int .u64 (x.first.pos:Nat),.int .u32 (x.first.ser:Nat),.int .u32 (x.first.num:Nat),.string (B x.first.laces),.string (B x.first.body)] 27)):=(Below.refl _ _).alloc (Nat.le_refl _) _;have O12:=Lib.hid (World.ownsRow_lit (base:=W0.heap.size) (e:=27) (size:=6) wj8 #[.int .u8 x.first.fl.toNat,.int .u64 (x.first.pos:Nat),.int .u32 (x.first.ser:Nat),.int .u32 (x.first.num:Nat),.string (B x.first.laces),.string (B x.first.body)] 1 B8.out.size (by decide) rfl);have B12:=Lib.hid (B8.out.trans (D12.mono B8.out.size));have Y12:=Lib.hid (Y8.out.below D12);refine hKK.out _ _ (HS.out _ B12.out) ?_;clear hKK KK D12
         try simp only [Act.put,List.setIfInBounds_toArray,List.set_cons_zero,List.set_cons_succ]
         generalize (wj8.alloc (.cells #[.int .u8 x.first.fl.toNat,.int .u64 (x.first.pos:Nat),.int .u32 (x.first.ser:Nat),.int .u32 (x.first.num:Nat),.string (B x.first.laces),.string (B x.first.body)] 27))=W12 at*;refine Zl (Ze rfl (by rfl) (fun KK hKK=> ?_))
         go_simp
         go_wp2_with fail
         have D14:Below W12.heap.size W12 (W12.alloc (.cells #[.string (B BLK),.string (B x.setup)] 9)):=(Below.refl _ _).alloc (Nat.le_refl _) _;have Y14:=Lib.hid (Bx.new W12 #[.string (B BLK),.string (B x.setup)] 9);have B14:=Lib.hid (B12.out.trans (D14.mono B12.out.size));have O14:=Lib.hid (Zo O12.out D14);refine hKK.out _ _ (HS.out _ B14.out) ?_;clear hKK KK D14
         try simp only [Act.put,List.setIfInBounds_toArray,List.set_cons_zero,List.set_cons_succ]
         generalize (W12.alloc (.cells #[.string (B BLK),.string (B x.setup)] 9))=W14 at*;refine Zl (Ze rfl (by rfl) (fun KK hKK=> ?_))
         go_simp
         go_at_call 32
         refine(hpk W14 W12.heap.size Y14.out.lt (Y14.out.cell 0) (Y14.out.cell 1)).mono ?_;rintro e wp15 ⟨v15,rfl,hr15,D15⟩;obtain⟨A15,c15,hv15,hc15⟩:=hr15.len;subst hv15;have R15:=Lib.hid hr15;clear hr15;go_wp2_with fail
         have B15:=Lib.hid (B14.out.trans (D15.mono B14.out.size));have O15:=Lib.hid (Zo O14.out D15);have Y15:=Lib.hid (Y14.out.below D15);refine hKK.out _ _ (HS.out _ B15.out) ?_;clear hKK KK D15
         try simp only [Act.put,List.setIfInBounds_toArray,List.set_cons_zero,List.set_cons_succ]
         refine Zl (Ze rfl (by rfl) (fun KK hKK=> ?_));refine ZdD _ _ rfl W0.heap.size (.slice (some ⟨wj8.heap.size,0,none⟩) 1 1) [x.first] (Zn x) rfl wp15 _ _ O15.out B15.out.size (by simp) HM.out rfl R15.out ?_;intro v8 w8 HO8 hb8;have B9:=Lib.hid (B15.out.trans hb8);refine hKK.out _ _ (HS.out _ B9.out) ?_;clear hKK KK
         try simp only [Act.put,List.setIfInBounds_toArray,List.set_cons_zero,List.set_cons_succ]
         iterate 1 (refine' Zs rfl (by rfl) _ (fun w' hSw=>_) _;rotate_left;(obtain⟨s0,s1,s2,s3,s4,s5,s6,s7,s8,s9,s10⟩:=hSw;go_simp;try with_reducible rfl);try simp only [Act.put,List.setIfInBounds_toArray,List.set_cons_zero,List.set_cons_succ])
         refine Zae ?_;go_wp2_with fail
         go_meet
         exact⟨ST0.out.below B9.out,ZdX HO8.out HWS.out⟩
       · go_simp
         go_wp2_with fail
         have D13:Below wj8.heap.size wj8 (wj8.alloc (.cells #[.string (B BLK),.string (B x.setup)] 9)):=(Below.refl _ _).alloc (Nat.le_refl _) _;have Y13:=Lib.hid (Bx.new wj8 #[.string (B BLK),.string (B x.setup)] 9);have B13:=Lib.hid (B8.out.trans (D13.mono B8.out.size));refine hKK.out _ _ (HS.out _ B13.out) ?_;clear hKK KK D13
         try simp only [Act.put,List.setIfInBounds_toArray,List.set_cons_zero,List.set_cons_succ]
         generalize (wj8.alloc (.cells #[.string (B BLK),.string (B x.setup)] 9))=W13 at*;refine Zbf (Ze rfl (by rfl) (fun KK hKK=> ?_)) (Ze rfl (by rfl) (fun KK hKK=> ?_))
         · go_simp
           go_wp2_with fail
           have D16:Below W13.heap.size W13 (W13.alloc (.cells #[.int .u8 x.first.fl.toNat,.int .u64 (x.first.pos:Nat),.int .u32 (x.first.ser:Nat),.int .u32 (x.first.num:Nat),.string (B x.first.laces),.string (B x.first.body)] 27)):=(Below.refl _ _).alloc (Nat.le_refl _) _;have O16:=Lib.hid (World.ownsRow_lit (base:=W0.heap.size) (e:=27) (size:=6) W13 #[.int .u8 x.first.fl.toNat,.int .u64 (x.first.pos:Nat),.int .u32 (x.first.ser:Nat),.int .u32 (x.first.num:Nat),.string (B x.first.laces),.string (B x.first.body)] 1 B13.out.size (by decide) rfl);have B16:=Lib.hid (B13.out.trans (D16.mono B13.out.size));have Y16:=Lib.hid (Y13.out.below D16);refine hKK.out _ _ (HS.out _ B16.out) ?_;clear hKK KK D16
           try simp only [Act.put,List.setIfInBounds_toArray,List.set_cons_zero,List.set_cons_succ]
           generalize (W13.alloc (.cells #[.int .u8 x.first.fl.toNat,.int .u64 (x.first.pos:Nat),.int .u32 (x.first.ser:Nat),.int .u32 (x.first.num:Nat),.string (B x.first.laces),.string (B x.first.body)] 27))=W16 at*;refine Zl (Ze rfl (by rfl) (fun KK hKK=> ?_))
           go_simp
           go_at_call 32
           refine(hpk W16 wj8.heap.size Y16.out.lt (Y16.out.cell 0) (Y16.out.cell 1)).mono ?_;rintro e wp18 ⟨v18,rfl,hr18,D18⟩;obtain⟨A18,c18,hv18,hc18⟩:=hr18.len;subst hv18;have R18:=Lib.hid hr18;clear hr18;go_wp2_with fail
           have B18:=Lib.hid (B16.out.trans (D18.mono B16.out.size));have O18:=Lib.hid (Zo O16.out D18);have Y18:=Lib.hid (Y16.out.below D18);refine hKK.out _ _ (HS.out _ B18.out) ?_;clear hKK KK D18
           try simp only [Act.put,List.setIfInBounds_toArray,List.set_cons_zero,List.set_cons_succ]
           refine Zl (Ze rfl (by rfl) (fun KK hKK=> ?_));refine ZdD _ _ rfl W0.heap.size (.slice (some ⟨W13.heap.size,0,none⟩) 1 1) [x.first] (Zn x) rfl wp18 _ _ O18.out B18.out.size (by simp) HM.out rfl R18.out ?_;intro v8 w8 HO8 hb8;have B9:=Lib.hid (B18.out.trans hb8);refine hKK.out _ _ (HS.out _ B9.out) ?_;clear hKK KK
           try simp only [Act.put,List.setIfInBounds_toArray,List.set_cons_zero,List.set_cons_succ]
           iterate 1 (refine' Zs rfl (by rfl) _ (fun w' hSw=>_) _;rotate_left;(obtain⟨s0,s1,s2,s3,s4,s5,s6,s7,s8,s9,s10⟩:=hSw;go_simp;try with_reducible rfl);try simp only [Act.put,List.setIfInBounds_toArray,List.set_cons_zero,List.set_cons_succ])
           refine Zae ?_;go_wp2_with fail
           go_meet
           exact⟨ST0.out.below B9.out,ZdX HO8.out HWS.out⟩
         · go_simp
           go_at_call 32
           refine(hpk W13 wj8.heap.size Y13.out.lt (Y13.out.cell 0) (Y13.out.cell 1)).mono ?_;rintro e wp17 ⟨v17,rfl,hr17,D17⟩;obtain⟨A17,c17,hv17,hc17⟩:=hr17.len;subst hv17;have R17:=Lib.hid hr17;clear hr17;go_wp2_with fail
           have B17:=Lib.hid (B13.out.trans (D17.mono B13.out.size));have Y17:=Lib.hid (Y13.out.below D17);refine hKK.out _ _ (HS.out _ B17.out) ?_;clear hKK KK D17
           try simp only [Act.put,List.setIfInBounds_toArray,List.set_cons_zero,List.set_cons_succ]
           refine Zl (Ze rfl (by rfl) (fun KK hKK=> ?_))
           go_simp
           go_wp2_with fail
           have D19:Below wp17.heap.size wp17 (wp17.alloc (.cells #[.int .u8 x.first.fl.toNat,.int .u64 (x.first.pos:Nat),.int .u32 (x.first.ser:Nat),.int .u32 (x.first.num:Nat),.string (B x.first.laces),.string (B x.first.body)] 27)):=(Below.refl _ _).alloc (Nat.le_refl _) _;have O19:=Lib.hid (World.ownsRow_lit (base:=W0.heap.size) (e:=27) (size:=6) wp17 #[.int .u8 x.first.fl.toNat,.int .u64 (x.first.pos:Nat),.int .u32 (x.first.ser:Nat),.int .u32 (x.first.num:Nat),.string (B x.first.laces),.string (B x.first.body)] 1 B17.out.size (by decide) rfl);have B19:=Lib.hid (B17.out.trans (D19.mono B17.out.size));have Y19:=Lib.hid (Y17.out.below D19);have R19:=Lib.hid (R17.out.below D19);refine hKK.out _ _ (HS.out _ B19.out) ?_;clear hKK KK D19
           try simp only [Act.put,List.setIfInBounds_toArray,List.set_cons_zero,List.set_cons_succ]
           generalize (wp17.alloc (.cells #[.int .u8 x.first.fl.toNat,.int .u64 (x.first.pos:Nat),.int .u32 (x.first.ser:Nat),.int .u32 (x.first.num:Nat),.string (B x.first.laces),.string (B x.first.body)] 27))=W19 at*;refine Zl (Ze rfl (by rfl) (fun KK hKK=> ?_));refine ZdD _ _ rfl W0.heap.size (.slice (some ⟨wp17.heap.size,0,none⟩) 1 1) [x.first] (Zn x) rfl W19 _ _ O19.out B19.out.size (by simp) HM.out rfl R19.out ?_;intro v8 w8 HO8 hb8;have B9:=Lib.hid (B19.out.trans hb8);refine hKK.out _ _ (HS.out _ B9.out) ?_;clear hKK KK
           try simp only [Act.put,List.setIfInBounds_toArray,List.set_cons_zero,List.set_cons_succ]
           iterate 1 (refine' Zs rfl (by rfl) _ (fun w' hSw=>_) _;rotate_left;(obtain⟨s0,s1,s2,s3,s4,s5,s6,s7,s8,s9,s10⟩:=hSw;go_simp;try with_reducible rfl);try simp only [Act.put,List.setIfInBounds_toArray,List.set_cons_zero,List.set_cons_succ])
           refine Zae ?_;go_wp2_with fail
           go_meet
           exact⟨ST0.out.below B9.out,ZdX HO8.out HWS.out⟩
  obtain⟨hs1,ho1⟩:=hcut;have S5:=Lib.hid hs1;have O5:=Lib.hid ho1;have HALL:Hid (ZO x=([x.first]++Zn x)++Zt ([x.first]++Zn x).length x.sound):=Lib.hid (by
   rw [ZbU,show([x.first]++Zn x).length=1+(Zn x).length by simp;omega];simp)
  have hL0:([x.first]++Zn x).length≤320:=by simp;omega
  clear hs1 ho1 ST0 HB0 hck hcp hjn hpk HWS hHW;clear c0 c1 c2 c3 c4 c5 c6 c7 c8 c9 c10 r0 r1 rf l1 l2;obtain⟨⟨c0,c1,c2,c3,c4,c5,c6,c7,c8,c9,c10⟩,⟨r0,r1⟩,rf,l1,l2⟩:=S5.out.cells;generalize [x.first]++Zn x=L0 at*;obtain⟨_,A8,c8b,hv8,hc8⟩:=ZbF O5.out;subst hv8;have hmx:decide ((1048576:Int)<(L0.length:Int)+(x.sound.length:Int))=false:=decide_eq_false (by omega);have hmx2:¬(1048576:Int)<(L0.length:Int)+(x.sound.length:Int):=by omega
  have hwm:IntKind.i64.wrap ((L0.length:Int)+(x.sound.length:Int))=(L0.length:Int)+(x.sound.length:Int):=by rw [IntKind.wrap_i64];omega
  go_wp2_with fail
  go_loopw [8,55] (fun v i wx=>OlRel w (stV x.first x.v vs (.slice AN x.ns.length cN) x.setup (.slice A x.sound.length c)) L0 x.sound v i wx) (fun _ i _=>x.sound.length - (intOf i).toNat)
  case atStart=>exact⟨0,Nat.zero_le _,rfl,S5.out,by simp only [List.take_zero,Zt,List.append_nil];exact O5.out⟩
  case round=>
   obtain⟨k,hk,rfl,hst,how⟩:=hrel;have ST:=Lib.hid hst;obtain⟨L,hL⟩:∃L,L=L0++Zt L0.length (x.sound.take k):=⟨_,rfl⟩
   rw [←hL] at how;have OW:=Lib.hid how;have hLl:L.length=L0.length+k:=by rw [hL,List.length_append,Zc7,List.length_take];omega
   have HL:=Lib.hid hL;clear hst how hL;clear c0 c1 c2 c3 c4 c5 c6 c7 c8 c9 c10 r0 r1 rf l1 l2;obtain⟨⟨c0,c1,c2,c3,c4,c5,c6,c7,c8,c9,c10⟩,⟨r0,r1⟩,rf,l1,l2⟩:=ST.out.cells;obtain⟨_,A9,c9b,hv9,hc9⟩:=ZbF OW.out;subst hv9;have hsz:=ST.out.r.lt;by_cases hlt:k<x.sound.length
   · obtain⟨p,hk1⟩:∃p,x.sound[k]? =some p:=⟨_,List.getElem?_eq_getElem hlt⟩
     obtain⟨ad,rfl,hadb,y0,y1,y2,y3,y4,y5⟩:=(HR.out.below ST.out.low).page hk1;have hbl:ad.block<wr.heap.size:=Nat.lt_of_lt_of_le hadb ST.out.low.size;have hst2:x.sound.take (k+1)=x.sound.take k++[p]:=(Zb6 hk1).2;have hw1:IntKind.u32.wrap (L.length:Int)=(L.length:Int):=by rw [IntKind.wrap_u32];omega
     have hLm:L.length≤16777216:=by omega
     have HNX:Hid (L0++Zt L0.length (x.sound.take (k+1))=L++[⟨p.fl,p.pos,p.ser,L.length,p.laces,p.body⟩]):=Lib.hid (by
      rw [hst2,Zjb,←List.append_assoc,←HL.out,List.length_take,Nat.min_eq_left (by omega),Nat.mod_eq_of_lt (by omega),←hLl])
     clear hk1 hst2 hLl;go_upto_region 14 with fail
     have P0:=Lib.hid (Bx.new wr #[.int .u8 p.fl.toNat,.int .u64 (p.pos:Nat),.int .u32 (p.ser:Nat),.int .u32 (p.num:Nat),.string (B p.laces),.string (B p.body)] 27);have D0:=(Below.refl _ wr).alloc (Nat.le_refl _) (.cells #[.int .u8 p.fl.toNat,.int .u64 (p.pos:Nat),.int .u32 (p.ser:Nat),.int .u32 (p.num:Nat),.string (B p.laces),.string (B p.body)] 27);have T0:=Lib.hid (ST.out.below D0);have Q0:=Lib.hid (Zo OW.out D0);have NE:=Lib.hid (Zdi OW.out);clear D0 y0 y1 y2 y3 y4 y5;generalize wr.alloc (.cells #[.int .u8 p.fl.toNat,.int .u64 (p.pos:Nat),.int .u32 (p.ser:Nat),.int .u32 (p.num:Nat),.string (B p.laces),.string (B p.body)] 27)=W1 at*;generalize wr.heap.size=G at*;obtain⟨p0,p1,p2,p3,p4,p5⟩:=P0.out.six;have pf:=P0.out.free;have pl:=P0.out.lt;go_upto_region 15 with fail
     have P1:=Lib.hid (P0.out.put 3 (.int .u32 (L.length:Nat)));have T1:Hid (OkSt w (W1.setCell ⟨G,3,none⟩ (.int .u32 (L.length:Nat))) _):=Lib.hid (OkSt.mk (T0.out.x.set (k:=G) (by omega) 3 _) (T0.out.r.set (k:=G) (by omega) 3 _) (T0.out.low.setCell (p:=⟨G,3,none⟩) (by show w.heap.size≤G;omega) _));have Q1:=Lib.hid (Zdj Q0.out NE.out 3 (.int .u32 (L.length:Nat)));clear P0 T0 Q0 p0 p1 p2 p3 p4 p5 pf pl;generalize W1.setCell ⟨G,3,none⟩ (.int .u32 (L.length:Nat))=W2 at*;obtain⟨p0,p1,p2,p3,p4,p5⟩:=P1.out.six;have pl:=P1.out.lt;have hz2:w.heap.size+2≤W2.heap.size:=T1.out.r.lt;go_wp2_with (at_builtin;refine ZfZ rfl _ _ rfl (w.heap.size+2) (.slice A9 L.length c9b) L rfl W2 ⟨p.fl,p.pos,p.ser,L.length,p.laces,p.body⟩ _ rfl Q1.out hz2 hLm rfl ?_;intro v8 w8 HO8 hb8 hg8 hf8;have S8:=Lib.hid (T1.out.low2 hb8);clear hb8 hg8 hf8)
     clear p0 p1 p2 p3 p4 p5 pl;clear c0 c1 c2 c3 c4 c5 c6 c7 c8 c9 c10 r0 r1 rf l1 l2;go_roundw
     case rel=>exact⟨k+1,by omega,by go_num,S8.out,by rw [HNX.out];exact HO8.out⟩
     case measure=>simp [intOf];omega
   · obtain rfl:k=x.sound.length:=by omega
     have hL2:=HL.out;rw [List.take_length,←HALL.out] at hL2;have HL2:=Lib.hid hL2;clear hL2 HL hLl;have hne:L=[]→(Value.slice A9 L.length c9b)= .slice none 0 0:=fun e=>by
      have h1:=HL2.out;rw [e,ZbU] at h1;cases h1
     have HRW:=Lib.hid (Zg.of_own (f:=pgL) rfl OW.out hne);clear hne;go_wp2_with fail
     have F:=ST.out.fin (.int .i64 0) (.int .i64 0);refine bodyPost_ret (Zbg rfl _ _ (w.heap.size+1) _ _ _ _ _ rfl rfl F.1 Tryz.underlying45 rfl (by kernel_rfl)) rfl ?_;exact HPt.out _ _ (by rw [←HL2.out];exact((HRW.out.set (show w.heap.size+1<w.heap.size+2 by omega) 0 _).set (show w.heap.size+1<w.heap.size+2 by omega) 1 _).low (by omega)) F.2
end Go.Proofs.YtnbkfkbcpfkddaaGreatDoor
