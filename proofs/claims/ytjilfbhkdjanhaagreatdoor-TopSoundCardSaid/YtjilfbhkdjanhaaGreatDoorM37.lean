/- Lemmas for a statement on the tops; conditions: as each says. -/
import Derived.Test.YtjilfbhkdjanhaaGreatDoorM36
set_option linter.all false
set_option maxRecDepth 100000
set_option maxHeartbeats 4000000
open Go.Proofs.Tryz
namespace Go.Proofs.YtjilfbhkdjanhaaGreatDoor
open Go Go.RowKit
def ZR(t:Tl)(k:Nat):List UInt8:=tlN t k++List.replicate (rmN t.tr k - (tlN t k).length) 0
def ZaF(t:Tl):Nat->List (List UInt8)
 |0=>[tgL]
 |k+1=>ZaF t k++[tlN t k,List.replicate (rmN t.tr k - (tlN t k).length) 0]
def ZcF(t:Tl):List (List UInt8):=if t.tr=0 then [] else [[0,t.tr]]
def Zb9(t:Tl):List (List UInt8):=ZaF t 5++(ZcF t++[[t.g]])
def Zaa(t:Tl):List UInt8:=(Zb9 t).flatten
def ZjI(t:Tl):∀k,(ZaF t k).length=1+2*k
 |0=>rfl
 |k+1=>by show(ZaF t k++_).length=_;rw[List.length_append,ZjI t k];simp;omega
def Zog(t:Tl)(h:∀k,(tlN t k).length<=1000000000):∀k,(ZaF t k).flatten.length<=3+k*2000000000
 |0=>Nat.le_refl 3
 |k+1=>by
  have q:=Zog t h k;have y:=h k;have u:rmN t.tr k<=30:=by
   unfold rmN ZcR;split
   ·decide
   ·split<;>decide
   ·decide
  have e:ZaF t (k+1)=ZaF t k++[tlN t k,List.replicate (rmN t.tr k - (tlN t k).length) 0]:=rfl;rw[e,List.flatten_append,List.length_append];have j:([tlN t k,List.replicate (rmN t.tr k - (tlN t k).length) 0]:List (List UInt8)).flatten.length=(tlN t k).length+(rmN t.tr k - (tlN t k).length):=by
   simp only[List.flatten_cons,List.flatten_nil,List.append_nil,List.length_append,List.length_replicate]
  rw[j];omega
def Zfr(tr:UInt8)(k:Nat):rmN tr k<=30:=by
 unfold rmN ZcR;split
 ·decide
 ·split<;>decide
 ·decide
def ZcC{t:Tl}{k:Nat}(h:okN t k=true):(tlN t k).length<=rmN t.tr k/\Lib.indexByte (tlN t k) 0<0:=by
 unfold okN at h;rw[Bool.and_eq_true,decide_eq_true_eq,decide_eq_true_eq] at h;exact⟨h.2,h.1⟩
def ZsL(x:UInt8)(w:World):Calls prog 34 #[.int .u64 x.toNat,.int .i64 2] w λe w'=>e=.returned (.string (B [0,x]))/\Below w.heap.size w w':=by
 have j:=x.toNat_lt;have h:=ZeP x.toNat 2 (by omega) (by omega) (by omega) w;have e:Zas x.toNat 2=[0,x]:=by
  simp only[Zas];rw[show x.toNat / 256^1 % 256=0 by omega];simp[Nat.mod_eq_of_lt j]
 rw[e] at h;exact h
def ZxM(n:Nat)(hn:n<=100)(w:World):Calls prog 33 #[.string ⟨#[0]⟩,.int .i64 (n:Nat)] w λe w'=>e=.returned (.string (B (List.replicate n 0)))/\Below w.heap.size w w':=by
 have h:=strings_Repeat ⟨#[0]⟩ n w (by omega) (by show 1*n<=_;omega);have e:∀k,Lib.repeatL (⟨#[0]⟩:ByteArray).data.toList k=List.replicate k 0:=λk=>by
  induction k with
  |zero=>rfl
  |succ k j=>rw[List.replicate_succ,<-j];rfl
 rw[e] at h;exact h
def ZgZ(t:Tl)(w:World)(e:Ending)(w':World):Prop:=Below w.heap.size w w'/\if okT t then e=.returned (.tuple #[.string (B (Zaa t)),.agg #[.int .i64 0,.int .i64 0]]) else∃n a:Int,1<=n/\e=.returned (.tuple #[.string ⟨#[]⟩,.agg #[.int .i64 n,.int .i64 a]])
structure TpSt2 (w wx:World)(t:Tl)(G Bm:Nat)(v:Value)(l:List (List UInt8)):Prop where
 x:Bx wx w.heap.size (tlA t) 29
 r:Bx wx (w.heap.size+1) #[.int .i64 0,.int .i64 0] 34
 m:Bx wx G (rmA t.tr) 87
 own:wx.ownsRow Bm 9 1 v l.length (l.map sV)
 low:Below w.heap.size w wx
 hG:w.heap.size+2<=G
 hB:G<Bm
 hs:Bm<=wx.heap.size
def TpSt2.below{w wx wy:World}{t:Tl}{G j:Nat}{v:Value}{l:List (List UInt8)}(h:TpSt2 w wx t G j v l)(hb:Below wx.heap.size wx wy):TpSt2 w wy t G j v l:=
 ⟨h.x.below hb,h.r.below hb,h.m.below hb,ZB h.own hb,h.low.trans (hb.mono h.low.size),h.hG,h.hB,Nat.le_trans h.hs hb.size⟩
def TpSt2.next{w wx wy:World}{t:Tl}{G j:Nat}{v u:Value}{l q:List (List UInt8)}(h:TpSt2 w wx t G j v l)(hb:Below j wx wy)(C:wy.ownsRow j 9 1 u q.length (q.map sV)):TpSt2 w wy t G j u q:=by
 have I:=h.hG;have y:=h.hB;have D:=h.hs;exact⟨h.x.same6 hb (by omega),h.r.same6 hb (by omega),h.m.same6 hb y,C,h.low.trans (hb.mono (by omega)),I,y,Nat.le_trans D hb.size⟩
def TpRel2(w:World)(t:Tl)(G j:Nat)(v i:Value)(wx:World):Prop:=∃k:Nat,k<=5/\i=.int .i64 k/\Hid (TpSt2 w wx t G j v (ZaF t k))
def Zvd{t:Tl}(h:okT t=true):∀k,(tlN t k).length<=1000000000
 |0=>Nat.le_trans (ZcC (ZaE h (k:=0) (by omega))).1 (Nat.le_trans (Zfr _ _) (by decide))
 |1=>Nat.le_trans (ZcC (ZaE h (k:=1) (by omega))).1 (Nat.le_trans (Zfr _ _) (by decide))
 |2=>Nat.le_trans (ZcC (ZaE h (k:=2) (by omega))).1 (Nat.le_trans (Zfr _ _) (by decide))
 |3=>Nat.le_trans (ZcC (ZaE h (k:=3) (by omega))).1 (Nat.le_trans (Zfr _ _) (by decide))
 |_+4=>Nat.le_trans (ZcC (ZaE h (k:=4) (by omega))).1 (Nat.le_trans (Zfr _ _) (by decide))
def Zsk(t:Tl)(h9:∀k,(tlN t k).length<=9223372036854775807)(w:World):Calls prog 9 #[.agg (tlA t)] w (ZgZ t w):=by
 have I:=λw=>Zsi t h9 w;unfold ZgY at I;have HP:Hid (∀e w',Below w.heap.size w w'->(if okT t then e=.returned (.tuple #[.string (B (Zaa t)),.agg #[.int .i64 0,.int .i64 0]]) else∃n a:Int,1<=n/\e=.returned (.tuple #[.string ⟨#[]⟩,.agg #[.int .i64 n,.int .i64 a]]))->ZgZ t w e w'):=QQ λe w' h1 h2=>⟨h1,h2⟩
 generalize ZgZ t w=P at*;have B0:=QQ (((Below.refl _ w).alloc NL (.cells (tlA t) 29)).alloc (by simp) (.cells #[.int .i64 0,.int .i64 0] 34));have X0:=QQ ((Bx.new w (tlA t) 29).alloc (.cells #[.int .i64 0,.int .i64 0] 34));have R0:=QQ (Bx.new (w.alloc (.cells (tlA t) 29)) #[.int .i64 0,.int .i64 0] 34);rw[World.size_alloc] at R0;have ac:=λw=>Zlx t w;have ay:=λw=>Zlv t w;obtain⟨x0,x1,x2,x3,x4,x5,x6⟩:=(show _ from⟨X0.cell 0,X0.cell 1,X0.cell 2,X0.cell 3,X0.cell 4,X0.cell 5,X0.cell 6⟩:(_/\_/\_/\_/\_/\_/\_))
 cases X:okT t with
 |false=>
  rw[X] at I HP;simp only[Bool.false_eq_true,if_false] at I HP;have a4:=λ(n a:Int) (hn:1<=n) wx=>ZV n a (by omega) wx;clear X ac ay;unfold tlA at*;go_enter func9,ntmps9
  go_upto_region 3 with(first
   |(go_at_call 30;refine(I _).mono ?_;rintro e w1 ⟨y,n,a,rfl,hn⟩;have B1:=QQ ((B0.trans (y.mono B0.size)).alloc (Nat.le_trans B0.size y.size) (.cells #[.int .i64 n,.int .i64 a] 34));have R1:=QQ ((R0.below y).alloc (.cells #[.int .i64 n,.int .i64 a] 34));have F1:=QQ (Bx.new w1 #[.int .i64 n,.int .i64 a] 34);have a7:=a4 n a hn;clear y;have HN:=QQ hn;clear hn)
   |(go_at_call 8;refine MR (a7 _) λw2 J=>?_;have B2:=QQ (B1.trans (J.mono B1.size));have R2:=QQ (R1.below J);have F2:=QQ (F1.below J);clear J;have r0:=R2.cell 0;have r1:=R2.cell 1;have rf:=R2.free;have rl:=R2.lt;have f0:=F2.cell 0;have f1:=F2.cell 1))
  go_region
  go_wp2_with fail
  have z:=(Zal R2 (.int .i64 n) (.int .i64 a)).below (below_drewN (Below.refl _ _) 1);refine bodyPost_ret (Zap rfl _ _ (w.heap.size+1) _ _ _ _ _ rfl rfl z underlying34 rfl (by kernel_rfl)) rfl (HP _ _ ?_ ⟨n,a,HN,rfl⟩);exact((B2.setCell (p:=⟨w.heap.size+1,0,none⟩) (Nat.le_succ _) _).setCell (p:=⟨w.heap.size+1,1,none⟩) (Nat.le_succ _) _).drew
 |true=>
  rw[X] at I HP;simp only[if_true] at I HP;have a6:=λwx=>ZG 0 0 rfl wx;have bc:=QQ X;have H9:=QQ (Zvd X);clear X h9;unfold tlA at x0 x1 x2 x3 x4 x5 x6 I ac⊢;unfold rmA at ac;unfold tlS at ay;go_enter func9,ntmps9
  unfold tlA at B0 X0 R0;go_upto_region 4 with(first
   |(go_at_call 30;refine(I _).mono ?_;rintro e w1 ⟨y,n,a,rfl,rfl,rfl⟩;have B1:=QQ ((B0.trans (y.mono B0.size)).alloc (Nat.le_trans B0.size y.size) (.cells #[.int .i64 0,.int .i64 0] 34));have R1:=QQ ((R0.below y).alloc (.cells #[.int .i64 0,.int .i64 0] 34));have X1:=QQ ((X0.below y).alloc (.cells #[.int .i64 0,.int .i64 0] 34));clear y)
   |(go_at_call 8;refine MR (a6 _) λw2 J=>?_;have B2:=QQ (B1.trans (J.mono B1.size));have R2:=QQ (R1.below J);have X2:=QQ (X1.below J);clear J;clear x0 x1 x2 x3 x4 x5 x6;obtain⟨x0,x1,x2,x3,x4,x5,x6⟩:=(show _ from⟨X2.cell 0,X2.cell 1,X2.cell 2,X2.cell 3,X2.cell 4,X2.cell 5,X2.cell 6⟩:(_/\_/\_/\_/\_/\_/\_))))
  go_upto_region 5 with(go_at_call 31;refine MR (ac _) λw3 an=>?_;have X3:=QQ (X2.below an);have R3:=QQ (R2.below an);have B3:=QQ (B2.trans (an.mono B2.size));clear an)
  have hG:w.heap.size+2<=w3.heap.size:=R3.lt;have M4:=QQ (Bx.new w3 (rmA t.tr) 87);have X4:=QQ (X3.alloc (.cells (rmA t.tr) 87));have R4:=QQ (R3.alloc (.cells (rmA t.tr) 87));have B4:=QQ (B3.alloc B3.size (.cells (rmA t.tr) 87));have aq:w3.heap.size<(w3.alloc (.cells (rmA t.tr) 87)).heap.size:=by simp
  unfold rmA at M4 X4 R4 B4 aq;clear x0 x1 x2 x3 x4 x5 x6 X0 R0 B0 X1 R1 B1 X2 R2 B2 X3 R3 B3 ac I;generalize (w3.alloc (.cells #[.int .i64 30,.int .i64 30,.int .i64 30,.int .i64 4,.int .i64 (ZcR t.tr:Nat)] 87))=W4 at*;generalize w3.heap.size=G at*;go_upto_region 6 with fail
  have u:Hid (TpSt2 w (W4.alloc (.cells #[.string ⟨#[84,65,71]⟩] 9)) t G W4.heap.size (.slice (some ⟨W4.heap.size,0,none⟩) 1 1) (ZaF t 0)):=QQ ⟨X4.alloc _,R4.alloc _,M4.alloc _,World.ownsRow_lit (base:=W4.heap.size) (e:=9) (size:=1) W4 #[.string ⟨#[84,65,71]⟩] 1 NL (by decide) (by simp),B4.alloc B4.size _,hG,aq,by simp⟩;clear X4 R4 M4 B4;have HW:=QQ aq;generalize (W4.alloc (.cells #[.string ⟨#[84,65,71]⟩] 9))=W5 at*;generalize W4.heap.size=Bm at*;have y0:=u.x.cell 0;have y1:=u.x.cell 1;have y2:=u.x.cell 2;have y3:=u.x.cell 3;have y4:=u.x.cell 4;rw[show(tlA t)[0]?=some (.string (B t.a)) from rfl] at y0;rw[show(tlA t)[1]?=some (.string (B t.b)) from rfl] at y1;rw[show(tlA t)[2]?=some (.string (B t.c)) from rfl] at y2;rw[show(tlA t)[3]?=some (.string (B t.d)) from rfl] at y3;rw[show(tlA t)[4]?=some (.string (B t.e)) from rfl] at y4;go_wp2_with (go_at_call 32;refine MR (ay _) λw6 ai=>?_;have aa:=QQ (u.below ai);clear ai)
  clear y0 y1 y2 y3 y4 u;go_loopw [6,20] (λv i wx=>TpRel2 w t G Bm v i wx) (λ_ i _=>5 - (intOf i).toNat)
  case atStart=>exact⟨0,by omega,rfl,aa⟩
  case round=>
   obtain⟨k,hk,rfl,ST⟩:=hrel;clear aa;obtain⟨A0,n0,aA,aY⟩:=Zfo ST.own;subst aY;by_cases ax:k<5
   ·have mc:=ZoK ST.m ax;have ml:=ST.m.lt;have bF:=Zj (tlN t k);obtain⟨hw,hz⟩:=ZcC (ZaE bc ax);have bI:=Zfr t.tr k;have au:=λw=>ZxM (rmN t.tr k - (tlN t k).length) (by omega) w;rw[show((rmN t.tr k - (tlN t k).length:Nat):Int)=(rmN t.tr k:Int) - (tlN t k).length by omega] at au;have a2:=ZjI t k;have V:(ZaF t k).length<=16777216:=by omega
    have aw:ZaF t (k+1)=ZaF t k++[tlN t k,List.replicate (rmN t.tr k - (tlN t k).length) 0]:=rfl;obtain⟨Z,hZ⟩:∃Z,Z=List.replicate (rmN t.tr k - (tlN t k).length) (0:UInt8):=⟨_,rfl⟩
    rw[<-hZ] at au aw;have bb:=QQ aw;clear aw hz hZ;generalize ZaF t k=L at*;go_wp2_with fail
    rename_i hK
    have:=Zkh t k ax;unfold tlS at this;rw[this];refine hK _ _ ?_;clear hK this;generalize tlN t k=Y at*;go_wp2_with (first
     |(go_at_call 33;refine MR (au _) λw7 O=>?_;have q:=QQ (ST.below O);clear O;have ab:=q.hs)
     |(at_builtin;refine Zg4 rfl _ _ rfl Bm (.slice A0 n0 aA) L rfl w7 Y Z q.own ab V rfl ?_;intro v8 w8 D N ae;have aj:=QQ (q.next N D);clear N ae D))
    go_roundw
    case rel=>exact⟨k+1,by omega,by go_num,by rw[bb.out];exact aj⟩
    case measure=>simp[intOf];omega
   ·obtain rfl:k=5:=by omega
    have aL:=Zog t H9 5;have a2:=ZjI t 5;have W:Zb9 t=ZaF t 5++(ZcF t++[[t.g]]):=rfl;have z5:wr.cell? ⟨w.heap.size,5,none⟩=some (.int .u8 t.tr.toNat):=ST.x.cell 5;have z6:wr.cell? ⟨w.heap.size,6,none⟩=some (.int .u8 t.g.toNat):=ST.x.cell 6;have zl:=ST.x.lt;have bG:=ST.hs;have aM:=λw=>ZdD t.g w;have bH:=t.g.toNat_lt;have bE:=t.tr.toNat_lt;have wg:IntKind.u64.wrap (t.g.toNat:Int)=t.g.toNat:=by rw[IntKind.wrap_u64];omega
    have wt:IntKind.u64.wrap (t.tr.toNat:Int)=t.tr.toNat:=by rw[IntKind.wrap_u64];omega
    have V:(ZaF t 5).length<=16777216:=by omega
    have am:Zaa t=(Zb9 t).flatten:=rfl;by_cases h0:t.tr=0
    ·have e0:((t.tr.toNat:Int) !=0)=false:=by rw[h0];rfl
     have C:Zb9 t=ZaF t 5++[[t.g]]:=by rw[W];unfold ZcF;rw[if_pos h0];rfl
     have af:(Zb9 t).flatten.length<=35184372089000:=by
      rw[C,List.flatten_append,List.length_append];have:([[t.g]]:List (List UInt8)).flatten.length=1:=rfl;omega
     have ad:(Zb9 t).length<=35184372089000:=by rw[C,List.length_append];simp;omega
     have aK:Zb9 t≠[]:=by rw[C];simp
     have HA:=QQ C;have aG:=QQ af;have aF:=QQ ad;have bN:=QQ aK;have aC:=QQ am;clear h0 C W af ad aK aL am;generalize Zb9 t=AL at*;generalize ZaF t 5=L at*;generalize Zaa t=PT at*;go_wp2_with (first
      |(go_at_call 34;(with_reducible refine(aM _).mono ?_);rintro e w7 ⟨rfl,O⟩;have q:=QQ (ST.below O);clear O;have ab:=q.hs)
      |(at_builtin;refine Za5 rfl _ _ rfl Bm (.slice A0 n0 aA) L rfl w7 [t.g] q.own ab V rfl ?_;intro v8 w8 D N ae;have aj:=QQ (q.next N D);have U:=ZdM (l:=L++[[t.g]]) D (by simp) (by rw[<-HA.out];exact aG) (by rw[<-HA.out];exact aF);rw[<-HA.out] at U;clear N ae D)
      |(go_at_call 35;refine MR (U) λw9 ah=>?_;have j:=QQ (aj.below ah);clear ah U;have r0:=j.r.cell 0;have r1:=j.r.cell 1;have rf:=j.r.free;have rl:=j.r.lt))
     have z:=Zal j.r (.int .i64 0) (.int .i64 0);refine bodyPost_ret (Zap rfl _ _ (w.heap.size+1) _ _ _ _ _ rfl rfl z underlying34 rfl (by kernel_rfl)) rfl (HP _ _ ?_ (by rw[aC.out];rfl));exact(j.low.setCell (p:=⟨w.heap.size+1,0,none⟩) (Nat.le_succ _) _).setCell (p:=⟨w.heap.size+1,1,none⟩) (Nat.le_succ _) _
    ·have e0:((t.tr.toNat:Int) !=0)=true:=by rw[bne_iff_ne];intro e;exact h0 (UInt8.toNat_inj.1 (by show t.tr.toNat=0;omega))
     have a5:=λw=>ZsL t.tr w;have C:Zb9 t=ZaF t 5++[[0,t.tr]]++[[t.g]]:=by rw[W];unfold ZcF;rw[if_neg h0];simp
     have af:(Zb9 t).flatten.length<=35184372089000:=by
      rw[C,List.flatten_append,List.flatten_append,List.length_append,List.length_append];have:([[t.g]]:List (List UInt8)).flatten.length=1:=rfl;have:([[0,t.tr]]:List (List UInt8)).flatten.length=2:=rfl;omega
     have ad:(Zb9 t).length<=35184372089000:=by rw[C,List.length_append,List.length_append];simp;omega
     have HA:=QQ C;have aG:=QQ af;have aF:=QQ ad;have aC:=QQ am;have az:(ZaF t 5++[[0,t.tr]]).length<=16777216:=by rw[List.length_append];simp;omega
     clear h0 C W af ad aL am;generalize Zb9 t=AL at*;generalize ZaF t 5=L at*;generalize Zaa t=PT at*;go_wp2_with (first
      |(go_at_call 34;(with_reducible refine(a5 _).mono ?_);rintro e w5 ⟨rfl,aN⟩;have u:=QQ (ST.below aN);clear aN;have a1:=u.hs)
      |(at_builtin;refine Za5 rfl _ _ rfl Bm (.slice A0 n0 aA) L rfl w5 [0,t.tr] u.own a1 V rfl ?_;intro v6 w6 aE ai a3;obtain⟨A6,n6,c6,aZ⟩:=Zfo aE.out;subst aZ;have aa:=QQ (u.next ai aE);clear ai a3 aE;have bw:w6.cell? ⟨w.heap.size,6,none⟩=some (.int .u8 t.g.toNat):=aa.x.cell 6;have bv:=aa.x.lt)
      |(go_at_call 34;(with_reducible refine(aM _).mono ?_);rintro e w7 ⟨rfl,O⟩;have q:=QQ (aa.below O);clear O;have ab:=q.hs)
      |(at_builtin;refine Za5 rfl _ _ rfl Bm (.slice A6 n6 c6) (L++[[0,t.tr]]) rfl w7 [t.g] q.own ab az rfl ?_;intro v8 w8 D N ae;have aj:=QQ (q.next N D);have U:=ZdM (l:=L++[[0,t.tr]]++[[t.g]]) D (by simp) (by rw[<-HA.out];exact aG) (by rw[<-HA.out];exact aF);rw[<-HA.out] at U;clear N ae D)
      |(go_at_call 35;refine MR (U) λw9 ah=>?_;have j:=QQ (aj.below ah);clear ah U;have r0:=j.r.cell 0;have r1:=j.r.cell 1;have rf:=j.r.free;have rl:=j.r.lt))
     have z:=Zal j.r (.int .i64 0) (.int .i64 0);refine bodyPost_ret (Zap rfl _ _ (w.heap.size+1) _ _ _ _ _ rfl rfl z underlying34 rfl (by kernel_rfl)) rfl (HP _ _ ?_ (by rw[aC.out];rfl));exact(j.low.setCell (p:=⟨w.heap.size+1,0,none⟩) (Nat.le_succ _) _).setCell (p:=⟨w.heap.size+1,1,none⟩) (Nat.le_succ _) _
def Zb(l:List UInt8)(a n:Nat):List UInt8:=(l.drop a).take n
def ZdZ(l:List UInt8):Tl:=
 if(Zb l 97 30).getD 28 0=0/\(Zb l 97 30).getD 29 0≠0 then
  ⟨Zf (Zb l 3 30),Zf (Zb l 33 30),Zf (Zb l 63 30),Zf (Zb l 93 4),Zf ((Zb l 97 30).take 28),(Zb l 97 30).getD 29 0,l.getD 127 0⟩
 else⟨Zf (Zb l 3 30),Zf (Zb l 33 30),Zf (Zb l 63 30),Zf (Zb l 93 4),Zf (Zb l 97 30),0,l.getD 127 0⟩
def Zgk(l:List UInt8)(a b n:Nat)(h:a+n=b):(B l).extract a b=B (Zb l a n):=by
 subst h;rw[Zby,Nat.add_sub_cancel_left];rfl
def Zgl(l:List UInt8)(a n:Nat)(h:a+n<=l.length):(Zb l a n).length=n:=by
 unfold Zb;rw[List.length_take,List.length_drop];omega
def ZgE(k:Nat)(j:k<5)(w:World):(Instr.index 87 (.agg #[.int .i64 30,.int .i64 30,.int .i64 30,.int .i64 4,.int .i64 30]) (.int .i64 k)).run prog w=.ok (.int .i64 (if k=3 then 4 else 30)) w:=by
 obtain⟨info,u,q⟩:=Option.map_eq_some_iff.1 (show(prog.info? 3).map (·.size)=some 1 by kernel_rfl);have hs:(Go.sizeOf 3).run prog w=.ok 1 w:=by simp[Go.sizeOf,Ev.run_ti u,q]
 match k,j with
 |0,_=>simp[Instr.index,asIntOf,Ev.run_und underlying87,hs,part]
 |1,_=>simp[Instr.index,asIntOf,Ev.run_und underlying87,hs,part]
 |2,_=>simp[Instr.index,asIntOf,Ev.run_und underlying87,hs,part]
 |3,_=>simp[Instr.index,asIntOf,Ev.run_und underlying87,hs,part]
 |4,_=>simp[Instr.index,asIntOf,Ev.run_und underlying87,hs,part]
def Zi3(l:List UInt8)(i:Nat)(h:i<l.length):l[i]=l.getD i 0:=by rw[List.getD_eq_getElem?_getD,List.getElem?_eq_getElem h];rfl
def Zsj(l:List UInt8)(hl:l.length=128)(ht:l.take 3=tgL)(w:World):
 Calls prog 11 #[.string (B l)] w λe w'=>e=.returned (.tuple #[.agg (tlA (ZdZ l)),.bool true])/\Below w.heap.size w w':=by
 have W:∀w,Calls prog 36 #[.string (B l),.string ⟨#[84,65,71]⟩] w λe w'=>e=.returned (.bool true)/\w=w':=λw=>(strings_HasPrefix (B l) _ w).mono λe w' h=>⟨by rw[h.1,Z9];have:=pref3 l;rw[ht] at this;simp only[decide_true] at this;exact congrArg (λb=>Ending.returned (.bool b)) this,h.2.symm⟩
 have U:=λw=>Zlz w;have aL:(B l).size=128:=by rw[Zj];exact hl
 have e0:=Zgk l 3 33 30 rfl;have e1:=Zgk l 33 63 30 rfl;have e2:=Zgk l 63 93 30 rfl;have e3:=Zgk l 93 97 4 rfl;have e4:=Zgk l 97 127 30 rfl;have n0:=Zgl l 3 30 (by omega);have n1:=Zgl l 33 30 (by omega);have n2:=Zgl l 63 30 (by omega);have n3:=Zgl l 93 4 (by omega);have n4:=Zgl l 97 30 (by omega);have a0:=λw=>ZeV (Zb l 3 30) (by omega) w;have a1:=λw=>ZeV (Zb l 33 30) (by omega) w;have a2:=λw=>ZeV (Zb l 63 30) (by omega) w;have a3:=λw=>ZeV (Zb l 93 4) (by omega) w;have a4:=λw=>ZeV (Zb l 97 30) (by omega) w;have a5:=λw=>ZeV ((Zb l 97 30).take 28) (by rw[List.length_take];omega) w;have e5:(B (Zb l 97 30)).extract 0 28=B ((Zb l 97 30).take 28):=by rw[Zby];rfl
 have s4:(B (Zb l 97 30)).size=30:=by rw[Zj];exact n4
 have aN:∀h,(B (Zb l 97 30))[28]'h=(Zb l 97 30).getD 28 0:=λ_=>(ZaV (Zb l 97 30) 28 (by omega)).trans (Zi3 (Zb l 97 30) 28 (by omega));have aM:∀h,(B (Zb l 97 30))[29]'h=(Zb l 97 30).getD 29 0:=λ_=>(ZaV (Zb l 97 30) 29 (by omega)).trans (Zi3 (Zb l 97 30) 29 (by omega));have aA:∀h,(B l)[127]'h=l.getD 127 0:=λ_=>(ZaV l 127 (by omega)).trans (Zi3 l 127 (by omega));have HP:Hid (∀(x:Tl) w',ZdZ l=x->Below w.heap.size w w'->(λ(e:Ending) w'=>e=.returned (.tuple #[.agg (tlA (ZdZ l)),.bool true])/\Below w.heap.size w w') (.returned (.tuple #[.agg (tlA x),.bool true])) w'):=QQ λx w' h hb=>⟨by rw[h],hb⟩
 have V:ZdZ l=if(Zb l 97 30).getD 28 0=0/\(Zb l 97 30).getD 29 0≠0 then
  ⟨Zf (Zb l 3 30),Zf (Zb l 33 30),Zf (Zb l 63 30),Zf (Zb l 93 4),Zf ((Zb l 97 30).take 28),(Zb l 97 30).getD 29 0,l.getD 127 0⟩
 else⟨Zf (Zb l 3 30),Zf (Zb l 33 30),Zf (Zb l 63 30),Zf (Zb l 93 4),Zf (Zb l 97 30),0,l.getD 127 0⟩:=rfl
 have X:=QQ V;generalize (λ(e:Ending) w'=>e=Ending.returned (.tuple #[.agg (tlA (ZdZ l)),.bool true])/\Below w.heap.size w w')=P at*;generalize ZdZ l=PT at*;clear V;have B0:=QQ ((((Below.refl _ w).alloc NL (.cells #[.string ⟨#[]⟩,.string ⟨#[]⟩,.string ⟨#[]⟩,.string ⟨#[]⟩,.string ⟨#[]⟩,.int .u8 0,.int .u8 0] 29)).alloc (by simp) (.cells #[.string ⟨#[]⟩,.string ⟨#[]⟩,.string ⟨#[]⟩,.string ⟨#[]⟩,.string ⟨#[]⟩,.int .u8 0,.int .u8 0] 29)).alloc (by simp;omega) (.cells #[.string ⟨#[]⟩,.string ⟨#[]⟩,.string ⟨#[]⟩,.string ⟨#[]⟩,.string ⟨#[]⟩] 90));have R0:=QQ (((Bx.new w #[.string ⟨#[]⟩,.string ⟨#[]⟩,.string ⟨#[]⟩,.string ⟨#[]⟩,.string ⟨#[]⟩,.int .u8 0,.int .u8 0] 29).alloc (.cells #[.string ⟨#[]⟩,.string ⟨#[]⟩,.string ⟨#[]⟩,.string ⟨#[]⟩,.string ⟨#[]⟩,.int .u8 0,.int .u8 0] 29)).alloc (.cells #[.string ⟨#[]⟩,.string ⟨#[]⟩,.string ⟨#[]⟩,.string ⟨#[]⟩,.string ⟨#[]⟩] 90));have T0:=QQ ((Bx.new (w.alloc (.cells #[.string ⟨#[]⟩,.string ⟨#[]⟩,.string ⟨#[]⟩,.string ⟨#[]⟩,.string ⟨#[]⟩,.int .u8 0,.int .u8 0] 29)) #[.string ⟨#[]⟩,.string ⟨#[]⟩,.string ⟨#[]⟩,.string ⟨#[]⟩,.string ⟨#[]⟩,.int .u8 0,.int .u8 0] 29).alloc (.cells #[.string ⟨#[]⟩,.string ⟨#[]⟩,.string ⟨#[]⟩,.string ⟨#[]⟩,.string ⟨#[]⟩] 90));have P0:=QQ (Bx.new ((w.alloc (.cells #[.string ⟨#[]⟩,.string ⟨#[]⟩,.string ⟨#[]⟩,.string ⟨#[]⟩,.string ⟨#[]⟩,.int .u8 0,.int .u8 0] 29)).alloc (.cells #[.string ⟨#[]⟩,.string ⟨#[]⟩,.string ⟨#[]⟩,.string ⟨#[]⟩,.string ⟨#[]⟩,.int .u8 0,.int .u8 0] 29)) #[.string ⟨#[]⟩,.string ⟨#[]⟩,.string ⟨#[]⟩,.string ⟨#[]⟩,.string ⟨#[]⟩] 90);rw[World.size_alloc] at T0;rw[World.size_alloc,World.size_alloc] at P0;clear n0 n1 n2 n3 n4 hl ht;go_enter func11,ntmps11
 go_wp2_with (first
  |(go_at_call 36;refine(W _).mono ?_;rintro e w1 ⟨rfl,rfl⟩)
  |(go_at_call 37;refine MR (U _) λw2 I=>?_;have R2:=QQ (R0.below I);have T2:=QQ (T0.below I);have L:=QQ (P0.below I);have B2:=QQ (B0.trans (I.mono B0.size));clear I;have pl:=L.lt;have pf:=L.free;have p0:=L.cell 0;have p1:=L.cell 1;have p2:=L.cell 2;have p3:=L.cell 3;have p4:=L.cell 4))
 clear R0 T0 P0 B0;have ad:∀w,(Instr.index 87 (.agg #[.int .i64 30,.int .i64 30,.int .i64 30,.int .i64 4,.int .i64 30]) (.int .i64 0)).run prog w=.ok (.int .i64 30) w:=λw=>ZgE 0 (by omega) w;have ac:∀w,(Instr.index 87 (.agg #[.int .i64 30,.int .i64 30,.int .i64 30,.int .i64 4,.int .i64 30]) (.int .i64 1)).run prog w=.ok (.int .i64 30) w:=λw=>ZgE 1 (by omega) w;have ab:∀w,(Instr.index 87 (.agg #[.int .i64 30,.int .i64 30,.int .i64 30,.int .i64 4,.int .i64 30]) (.int .i64 2)).run prog w=.ok (.int .i64 30) w:=λw=>ZgE 2 (by omega) w;have aa:∀w,(Instr.index 87 (.agg #[.int .i64 30,.int .i64 30,.int .i64 30,.int .i64 4,.int .i64 30]) (.int .i64 3)).run prog w=.ok (.int .i64 4) w:=λw=>ZgE 3 (by omega) w;have Z:∀w,(Instr.index 87 (.agg #[.int .i64 30,.int .i64 30,.int .i64 30,.int .i64 4,.int .i64 30]) (.int .i64 4)).run prog w=.ok (.int .i64 30) w:=λw=>ZgE 4 (by omega) w;refine wp_loop_rounds 6 ?_;rw[rounds_succ];go_wp2_with fail
 rw[rounds_succ];go_wp2_with fail
 rw[rounds_succ];go_wp2_with fail
 rw[rounds_succ];go_wp2_with fail
 rw[rounds_succ];go_wp2_with fail
 rw[rounds_succ];go_upto_region 12 with fail
 have O:=QQ (((((L.put 0 (.string (B (Zb l 3 30)))).put 1 (.string (B (Zb l 33 30)))).put 2 (.string (B (Zb l 63 30)))).put 3 (.string (B (Zb l 93 4)))).put 4 (.string (B (Zb l 97 30))));have J:=QQ (((((T2.set (k:=w.heap.size+1+1) (by omega) 0 (.string (B (Zb l 3 30)))).set (k:=w.heap.size+1+1) (by omega) 1 (.string (B (Zb l 33 30)))).set (k:=w.heap.size+1+1) (by omega) 2 (.string (B (Zb l 63 30)))).set (k:=w.heap.size+1+1) (by omega) 3 (.string (B (Zb l 93 4)))).set (k:=w.heap.size+1+1) (by omega) 4 (.string (B (Zb l 97 30))));have R3:=QQ (((((R2.set (k:=w.heap.size+1+1) (by omega) 0 (.string (B (Zb l 3 30)))).set (k:=w.heap.size+1+1) (by omega) 1 (.string (B (Zb l 33 30)))).set (k:=w.heap.size+1+1) (by omega) 2 (.string (B (Zb l 63 30)))).set (k:=w.heap.size+1+1) (by omega) 3 (.string (B (Zb l 93 4)))).set (k:=w.heap.size+1+1) (by omega) 4 (.string (B (Zb l 97 30))));have B3:=QQ (((((B2.setCell (p:=⟨w.heap.size+1+1,0,none⟩) (by show w.heap.size<=w.heap.size+1+1;omega) (.string (B (Zb l 3 30)))).setCell (p:=⟨w.heap.size+1+1,1,none⟩) (by show w.heap.size<=w.heap.size+1+1;omega) (.string (B (Zb l 33 30)))).setCell (p:=⟨w.heap.size+1+1,2,none⟩) (by show w.heap.size<=w.heap.size+1+1;omega) (.string (B (Zb l 63 30)))).setCell (p:=⟨w.heap.size+1+1,3,none⟩) (by show w.heap.size<=w.heap.size+1+1;omega) (.string (B (Zb l 93 4)))).setCell (p:=⟨w.heap.size+1+1,4,none⟩) (by show w.heap.size<=w.heap.size+1+1;omega) (.string (B (Zb l 97 30))));clear L T2 R2 B2 p0 p1 p2 p3 p4 pl pf e0 e1 e2 e3 e4 ad ac ab aa Z W U;generalize (((((w2.setCell ⟨w.heap.size+1+1,0,none⟩ (.string (B (Zb l 3 30)))).setCell ⟨w.heap.size+1+1,1,none⟩ (.string (B (Zb l 33 30)))).setCell ⟨w.heap.size+1+1,2,none⟩ (.string (B (Zb l 63 30)))).setCell ⟨w.heap.size+1+1,3,none⟩ (.string (B (Zb l 93 4)))).setCell ⟨w.heap.size+1+1,4,none⟩ (.string (B (Zb l 97 30))))=W3 at*;have p0:W3.cell? ⟨w.heap.size+1+1,0,none⟩=some (.string (B (Zb l 3 30))):=O.cell 0;have p1:W3.cell? ⟨w.heap.size+1+1,1,none⟩=some (.string (B (Zb l 33 30))):=O.cell 1;have p2:W3.cell? ⟨w.heap.size+1+1,2,none⟩=some (.string (B (Zb l 63 30))):=O.cell 2;have p3:W3.cell? ⟨w.heap.size+1+1,3,none⟩=some (.string (B (Zb l 93 4))):=O.cell 3;have p4:W3.cell? ⟨w.heap.size+1+1,4,none⟩=some (.string (B (Zb l 97 30))):=O.cell 4;have tl:=J.lt;have tf:=J.free;have t0:=J.cell 0;have t1:=J.cell 1;have t2:=J.cell 2;have t3:=J.cell 3;have t4:=J.cell 4;have t5:=J.cell 5;have t6:=J.cell 6;have rl:=R3.lt;have rf:=R3.free;have r0:=R3.cell 0;have r1:=R3.cell 1;have r2:=R3.cell 2;have r3:=R3.cell 3;have r4:=R3.cell 4;have r5:=R3.cell 5;have r6:=R3.cell 6;clear O;generalize (Zb l 97 30).getD 28 0=D at*;generalize (Zb l 97 30).getD 29 0=q at*;generalize l.getD 127 0=j at*;have N:PT=if D=0/\q≠0 then⟨Zf (Zb l 3 30),Zf (Zb l 33 30),Zf (Zb l 63 30),Zf (Zb l 93 4),Zf ((Zb l 97 30).take 28),q,j⟩ else⟨Zf (Zb l 3 30),Zf (Zb l 33 30),Zf (Zb l 63 30),Zf (Zb l 93 4),Zf (Zb l 97 30),0,j⟩:=X.out
 clear X;by_cases u:D=0
 ·have af:((D.toNat:Int)==0)=true:=by rw[u];rfl
  by_cases C:q≠0
  ·have ae:((q.toNat:Int) !=0)=true:=by rw[bne_iff_ne];intro e;exact C (UInt8.toNat_inj.1 (by show q.toNat=0;omega))
   rw[if_pos ⟨u,C⟩] at N;have Y:=QQ N;clear N u C;go_wp2_with (go_at_call 38;first|((with_reducible refine(a0 _).mono ?_);rintro e y ⟨rfl,rfl⟩)|((with_reducible refine(a1 _).mono ?_);rintro e y ⟨rfl,rfl⟩)|((with_reducible refine(a2 _).mono ?_);rintro e y ⟨rfl,rfl⟩)|((with_reducible refine(a3 _).mono ?_);rintro e y ⟨rfl,rfl⟩)|((with_reducible refine(a5 _).mono ?_);rintro e y ⟨rfl,rfl⟩))
   have z:=((((((((((((((R3.set (k:=w.heap.size+1) (by omega) 5 (.int .u8 q.toNat)).set (k:=w.heap.size+1) (by omega) 0 (.string (B (Zf (Zb l 3 30))))).set (k:=w.heap.size+1) (by omega) 1 (.string (B (Zf (Zb l 33 30))))).set (k:=w.heap.size+1) (by omega) 2 (.string (B (Zf (Zb l 63 30))))).set (k:=w.heap.size+1) (by omega) 3 (.string (B (Zf (Zb l 93 4))))).set (k:=w.heap.size+1) (by omega) 4 (.string (B (Zf ((Zb l 97 30).take 28))))).set (k:=w.heap.size+1) (by omega) 6 (.int .u8 j.toNat)).put 0 (.string (B (Zf (Zb l 3 30))))).put 1 (.string (B (Zf (Zb l 33 30))))).put 2 (.string (B (Zf (Zb l 63 30))))).put 3 (.string (B (Zf (Zb l 93 4))))).put 4 (.string (B (Zf ((Zb l 97 30).take 28))))).put 5 (.int .u8 q.toNat)).put 6 (.int .u8 j.toNat))
   simp only[List.setIfInBounds_toArray,List.set_cons_zero,List.set_cons_succ] at z;refine bodyPost_ret (ZdA rfl _ _ w.heap.size _ _ _ _ _ rfl rfl z underlying29 rfl (by kernel_rfl)) rfl ?_;refine HP _ _ Y ?_;exact((((((((((((((B3.setCell (p:=⟨w.heap.size+1,5,none⟩) (Nat.le_succ _) (.int .u8 q.toNat)).setCell (p:=⟨w.heap.size+1,0,none⟩) (Nat.le_succ _) (.string (B (Zf (Zb l 3 30))))).setCell (p:=⟨w.heap.size+1,1,none⟩) (Nat.le_succ _) (.string (B (Zf (Zb l 33 30))))).setCell (p:=⟨w.heap.size+1,2,none⟩) (Nat.le_succ _) (.string (B (Zf (Zb l 63 30))))).setCell (p:=⟨w.heap.size+1,3,none⟩) (Nat.le_succ _) (.string (B (Zf (Zb l 93 4))))).setCell (p:=⟨w.heap.size+1,4,none⟩) (Nat.le_succ _) (.string (B (Zf ((Zb l 97 30).take 28))))).setCell (p:=⟨w.heap.size+1,6,none⟩) (Nat.le_succ _) (.int .u8 j.toNat)).setCell (p:=⟨w.heap.size,0,none⟩) NL (.string (B (Zf (Zb l 3 30))))).setCell (p:=⟨w.heap.size,1,none⟩) NL (.string (B (Zf (Zb l 33 30))))).setCell (p:=⟨w.heap.size,2,none⟩) NL (.string (B (Zf (Zb l 63 30))))).setCell (p:=⟨w.heap.size,3,none⟩) NL (.string (B (Zf (Zb l 93 4))))).setCell (p:=⟨w.heap.size,4,none⟩) NL (.string (B (Zf ((Zb l 97 30).take 28))))).setCell (p:=⟨w.heap.size,5,none⟩) NL (.int .u8 q.toNat)).setCell (p:=⟨w.heap.size,6,none⟩) NL (.int .u8 j.toNat))
  ·have ae:((q.toNat:Int) !=0)=false:=by rw[Classical.not_not.1 C];rfl
   rw[if_neg λh=>C h.2] at N;have Y:=QQ N;clear N u C;go_wp2_with (go_at_call 38;first|((with_reducible refine(a0 _).mono ?_);rintro e y ⟨rfl,rfl⟩)|((with_reducible refine(a1 _).mono ?_);rintro e y ⟨rfl,rfl⟩)|((with_reducible refine(a2 _).mono ?_);rintro e y ⟨rfl,rfl⟩)|((with_reducible refine(a3 _).mono ?_);rintro e y ⟨rfl,rfl⟩)|((with_reducible refine(a4 _).mono ?_);rintro e y ⟨rfl,rfl⟩))
   have z:=(((((((((((((R3.set (k:=w.heap.size+1) (by omega) 0 (.string (B (Zf (Zb l 3 30))))).set (k:=w.heap.size+1) (by omega) 1 (.string (B (Zf (Zb l 33 30))))).set (k:=w.heap.size+1) (by omega) 2 (.string (B (Zf (Zb l 63 30))))).set (k:=w.heap.size+1) (by omega) 3 (.string (B (Zf (Zb l 93 4))))).set (k:=w.heap.size+1) (by omega) 4 (.string (B (Zf (Zb l 97 30))))).set (k:=w.heap.size+1) (by omega) 6 (.int .u8 j.toNat)).put 0 (.string (B (Zf (Zb l 3 30))))).put 1 (.string (B (Zf (Zb l 33 30))))).put 2 (.string (B (Zf (Zb l 63 30))))).put 3 (.string (B (Zf (Zb l 93 4))))).put 4 (.string (B (Zf (Zb l 97 30))))).put 5 (.int .u8 0)).put 6 (.int .u8 j.toNat))
   simp only[List.setIfInBounds_toArray,List.set_cons_zero,List.set_cons_succ] at z;refine bodyPost_ret (ZdA rfl _ _ w.heap.size _ _ _ _ _ rfl rfl z underlying29 rfl (by kernel_rfl)) rfl ?_;refine HP _ _ Y ?_;exact(((((((((((((B3.setCell (p:=⟨w.heap.size+1,0,none⟩) (Nat.le_succ _) (.string (B (Zf (Zb l 3 30))))).setCell (p:=⟨w.heap.size+1,1,none⟩) (Nat.le_succ _) (.string (B (Zf (Zb l 33 30))))).setCell (p:=⟨w.heap.size+1,2,none⟩) (Nat.le_succ _) (.string (B (Zf (Zb l 63 30))))).setCell (p:=⟨w.heap.size+1,3,none⟩) (Nat.le_succ _) (.string (B (Zf (Zb l 93 4))))).setCell (p:=⟨w.heap.size+1,4,none⟩) (Nat.le_succ _) (.string (B (Zf (Zb l 97 30))))).setCell (p:=⟨w.heap.size+1,6,none⟩) (Nat.le_succ _) (.int .u8 j.toNat)).setCell (p:=⟨w.heap.size,0,none⟩) NL (.string (B (Zf (Zb l 3 30))))).setCell (p:=⟨w.heap.size,1,none⟩) NL (.string (B (Zf (Zb l 33 30))))).setCell (p:=⟨w.heap.size,2,none⟩) NL (.string (B (Zf (Zb l 63 30))))).setCell (p:=⟨w.heap.size,3,none⟩) NL (.string (B (Zf (Zb l 93 4))))).setCell (p:=⟨w.heap.size,4,none⟩) NL (.string (B (Zf (Zb l 97 30))))).setCell (p:=⟨w.heap.size,5,none⟩) NL (.int .u8 0)).setCell (p:=⟨w.heap.size,6,none⟩) NL (.int .u8 j.toNat))
 ·have af:((D.toNat:Int)==0)=false:=by rw[beq_eq_false_iff_ne];intro e;exact u (UInt8.toNat_inj.1 (by show D.toNat=0;omega))
  rw[if_neg λh=>u h.1] at N;have Y:=QQ N;clear N u;go_wp2_with (go_at_call 38;first|((with_reducible refine(a0 _).mono ?_);rintro e y ⟨rfl,rfl⟩)|((with_reducible refine(a1 _).mono ?_);rintro e y ⟨rfl,rfl⟩)|((with_reducible refine(a2 _).mono ?_);rintro e y ⟨rfl,rfl⟩)|((with_reducible refine(a3 _).mono ?_);rintro e y ⟨rfl,rfl⟩)|((with_reducible refine(a4 _).mono ?_);rintro e y ⟨rfl,rfl⟩))
  have z:=(((((((((((((R3.set (k:=w.heap.size+1) (by omega) 0 (.string (B (Zf (Zb l 3 30))))).set (k:=w.heap.size+1) (by omega) 1 (.string (B (Zf (Zb l 33 30))))).set (k:=w.heap.size+1) (by omega) 2 (.string (B (Zf (Zb l 63 30))))).set (k:=w.heap.size+1) (by omega) 3 (.string (B (Zf (Zb l 93 4))))).set (k:=w.heap.size+1) (by omega) 4 (.string (B (Zf (Zb l 97 30))))).set (k:=w.heap.size+1) (by omega) 6 (.int .u8 j.toNat)).put 0 (.string (B (Zf (Zb l 3 30))))).put 1 (.string (B (Zf (Zb l 33 30))))).put 2 (.string (B (Zf (Zb l 63 30))))).put 3 (.string (B (Zf (Zb l 93 4))))).put 4 (.string (B (Zf (Zb l 97 30))))).put 5 (.int .u8 0)).put 6 (.int .u8 j.toNat))
  simp only[List.setIfInBounds_toArray,List.set_cons_zero,List.set_cons_succ] at z;refine bodyPost_ret (ZdA rfl _ _ w.heap.size _ _ _ _ _ rfl rfl z underlying29 rfl (by kernel_rfl)) rfl ?_;refine HP _ _ Y ?_;exact(((((((((((((B3.setCell (p:=⟨w.heap.size+1,0,none⟩) (Nat.le_succ _) (.string (B (Zf (Zb l 3 30))))).setCell (p:=⟨w.heap.size+1,1,none⟩) (Nat.le_succ _) (.string (B (Zf (Zb l 33 30))))).setCell (p:=⟨w.heap.size+1,2,none⟩) (Nat.le_succ _) (.string (B (Zf (Zb l 63 30))))).setCell (p:=⟨w.heap.size+1,3,none⟩) (Nat.le_succ _) (.string (B (Zf (Zb l 93 4))))).setCell (p:=⟨w.heap.size+1,4,none⟩) (Nat.le_succ _) (.string (B (Zf (Zb l 97 30))))).setCell (p:=⟨w.heap.size+1,6,none⟩) (Nat.le_succ _) (.int .u8 j.toNat)).setCell (p:=⟨w.heap.size,0,none⟩) NL (.string (B (Zf (Zb l 3 30))))).setCell (p:=⟨w.heap.size,1,none⟩) NL (.string (B (Zf (Zb l 33 30))))).setCell (p:=⟨w.heap.size,2,none⟩) NL (.string (B (Zf (Zb l 63 30))))).setCell (p:=⟨w.heap.size,3,none⟩) NL (.string (B (Zf (Zb l 93 4))))).setCell (p:=⟨w.heap.size,4,none⟩) NL (.string (B (Zf (Zb l 97 30))))).setCell (p:=⟨w.heap.size,5,none⟩) NL (.int .u8 0)).setCell (p:=⟨w.heap.size,6,none⟩) NL (.int .u8 j.toNat))
open Go
def Zhs:∀x:List UInt8,Lib.indexByte x 0<0->(0:UInt8)∉x
 |[],_=>by simp
 |a::r,h=>by
  simp only[Lib.indexByte] at h;split at h
  ·omega
  ·next j=>
   have j:a≠0:=by simpa using j
   split at h
   ·next q=>
    have q:Lib.indexByte r 0= -1:=by simpa using q
    have:=Zhs r (by omega);simp only[List.mem_cons,not_or];exact⟨λe=>j e.symm,this⟩
   ·have u:=Lib.indexByte_ge r 0;have:=Zhs r (by omega);simp only[List.mem_cons,not_or];exact⟨λe=>j e.symm,this⟩
def Znl:∀(x r:List UInt8),(0:UInt8)∉x->Lib.indexByte (x++0::r) 0=x.length
 |[],r,_=>by simp[Lib.indexByte]
 |a::x,r,h=>by
  simp only[List.mem_cons,not_or] at h;have j:=Znl x r h.2;simp only[List.cons_append,Lib.indexByte,List.length_cons];rw[if_neg (by simpa using λe=>h.1 e.symm),j,if_neg (by simp<;>omega)];simp
def Znk:∀x:List UInt8,(0:UInt8)∉x->Lib.indexByte x 0= -1
 |[],_=>rfl
 |a::x,h=>by
  simp only[List.mem_cons,not_or] at h;simp only[Lib.indexByte];rw[if_neg (by simpa using λe=>h.1 e.symm),Znk x h.2];rfl
def ZfS(x:List UInt8)(n:Nat)(h:Lib.indexByte x 0<0):Zf (x++List.replicate n 0)=x:=by
 have j:=Zhs x h;unfold Zf;cases n with
 |zero=>
  rw[List.replicate_zero,List.append_nil,Znk x j,if_neg (by decide)]
 |succ n=>
  rw[List.replicate_succ,Znl x _ j,if_pos (by omega),Int.toNat_natCast,List.take_append_of_le_length NL,List.take_length]
def Zda{t:Tl}{k:Nat}(h:okN t k=true):(ZR t k).length=rmN t.tr k:=by
 have:=(ZcC h).1;unfold ZR;rw[List.length_append,List.length_replicate];omega
def ZjP(t:Tl):Zaa t=tgL++(ZR t 0++(ZR t 1++(ZR t 2++(ZR t 3++(ZR t 4++((ZcF t).flatten++[t.g])))))):=by
 unfold Zaa Zb9;simp only[ZaF,ZR,List.flatten_append,List.flatten_cons,List.flatten_nil,List.append_nil,List.append_assoc,List.nil_append]
def Zgm(a x b:List UInt8)(n m:Nat)(q:a.length=n)(j:x.length=m):Zb (a++(x++b)) n m=x:=by
 subst q j;unfold Zb;rw[List.drop_left,List.take_left]
def ZuH(a:List UInt8)(g:UInt8)(n:Nat)(h:a.length=n):(a++[g]).getD n 0=g:=by
 subst h;rw[List.getD_eq_getElem?_getD,List.getElem?_append_right NL,Nat.sub_self];rfl
def Zpm(t:Tl):(ZR t 4).length=rmN t.tr 4->(ZR t 4++(ZcF t).flatten).length=30:=by
 intro h;rw[List.length_append,h];unfold rmN ZcR ZcF;by_cases h0:t.tr=0
 ·rw[if_pos h0,if_pos h0];rfl
 ·rw[if_neg h0,if_neg h0];rfl
def Zoz{t:Tl}(h:okT t=true):(Zaa t).length=128:=by
 have C:=Zda (ZaE h (k:=0) (by omega));have y:=Zda (ZaE h (k:=1) (by omega));have u:=Zda (ZaE h (k:=2) (by omega));have q:=Zda (ZaE h (k:=3) (by omega));have j:=Zpm t (Zda (ZaE h (k:=4) (by omega)));rw[List.length_append] at j;rw[ZjP];simp only[List.length_append,List.length_cons,List.length_nil];have e0:rmN t.tr 0=30:=rfl;have L:rmN t.tr 1=30:=rfl;have J:rmN t.tr 2=30:=rfl;have I:rmN t.tr 3=4:=rfl;have D:tgL.length=3:=rfl;omega
def ZjQ(t:Tl):(Zaa t).take 3=tgL:=by rw[ZjP];rfl
def ZwH{t:Tl}(h:okT t=true)(s:List UInt8):Zgw (s++Zaa t)=(s,Zaa t):=by
 have j:=Zoz h;unfold Zgw;rw[List.length_append,j,if_neg (by omega),Nat.add_sub_cancel,List.drop_left,if_pos (ZjQ t),List.take_left]
def ZwW{t:Tl}(h:okT t=true):ZdZ (Zaa t)=t:=by
 have o0:=ZcC (ZaE h (k:=0) (by omega));have o1:=ZcC (ZaE h (k:=1) (by omega));have o2:=ZcC (ZaE h (k:=2) (by omega));have o3:=ZcC (ZaE h (k:=3) (by omega));have J:=ZcC (ZaE h (k:=4) (by omega));have q:(ZR t 0).length=30:=Zda (ZaE h (k:=0) (by omega));have u:(ZR t 1).length=30:=Zda (ZaE h (k:=1) (by omega));have C:(ZR t 2).length=30:=Zda (ZaE h (k:=2) (by omega));have D:(ZR t 3).length=4:=Zda (ZaE h (k:=3) (by omega));have O:=Zda (ZaE h (k:=4) (by omega));have N:=Zpm t O;have a0:Zf (ZR t 0)=t.a:=ZfS _ _ o0.2;have a1:Zf (ZR t 1)=t.b:=ZfS _ _ o1.2;have a2:Zf (ZR t 2)=t.c:=ZfS _ _ o2.2;have a3:Zf (ZR t 3)=t.d:=ZfS _ _ o3.2;have U:Zf (ZR t 4)=t.e:=ZfS _ _ J.2;have e:=ZjP t;have p0:Zb (Zaa t) 3 30=ZR t 0:=by rw[e];exact Zgm _ _ _ _ _ rfl q
 have Z:Zb (Zaa t) 33 30=ZR t 1:=by rw[e,<-List.append_assoc];exact Zgm _ _ _ _ _ (by rw[List.length_append,q];rfl) u
 have Y:Zb (Zaa t) 63 30=ZR t 2:=by rw[e,<-List.append_assoc,<-List.append_assoc];exact Zgm _ _ _ _ _ (by simp only[List.length_append,q,u];rfl) C
 have X:Zb (Zaa t) 93 4=ZR t 3:=by rw[e,<-List.append_assoc,<-List.append_assoc,<-List.append_assoc];exact Zgm _ _ _ _ _ (by simp only[List.length_append,q,u,C];rfl) D
 have W:Zb (Zaa t) 97 30=ZR t 4++(ZcF t).flatten:=by
  rw[e,<-List.append_assoc,<-List.append_assoc,<-List.append_assoc,<-List.append_assoc,<-List.append_assoc (ZR t 4)];exact Zgm _ _ _ _ _ (by simp only[List.length_append,q,u,C,D];rfl) N
 have V:(Zaa t).getD 127 0=t.g:=by
  rw[e,<-List.append_assoc,<-List.append_assoc,<-List.append_assoc,<-List.append_assoc,<-List.append_assoc (ZR t 4),<-List.append_assoc];refine ZuH _ _ _ ?_;rw[List.length_append,List.length_append,List.length_append,List.length_append,List.length_append,q,u,C,D,N];rfl
 unfold ZdZ;rw[p0,Z,Y,X,W,V,a0,a1,a2,a3];by_cases h0:t.tr=0
 ·have I:(ZcF t).flatten=[]:=by unfold ZcF;rw[if_pos h0];rfl
  rw[I,List.append_nil,U];have hc:¬((ZR t 4).getD 28 0=0/\(ZR t 4).getD 29 0≠0):=by
   rintro⟨y,c2⟩;have hz:=Zhs _ J.2;unfold ZR at y c2;by_cases j:28<(tlN t 4).length
   ·rw[List.getD_eq_getElem?_getD,List.getElem?_append_left j,List.getElem?_eq_getElem j] at y;exact hz (by rw[<-(show(tlN t 4)[28]=0 from y)];exact List.getElem_mem _)
   ·apply c2
    rw[List.getD_eq_getElem?_getD,List.getElem?_append_right (by omega),List.getElem?_replicate];split<;>rfl
  rw[if_neg hc];obtain⟨a,b,c,d,f,tr,g⟩:=t;simp only at h0;subst h0;rfl
 ·have I:(ZcF t).flatten=[0,t.tr]:=by unfold ZcF;rw[if_neg h0];rfl
  have L:(ZR t 4).length=28:=by rw[O];show ZcR t.tr=28;unfold ZcR;rw[if_neg h0]
  rw[I];have y:(ZR t 4++[0,t.tr]).getD 28 0=0:=by rw[List.getD_eq_getElem?_getD,List.getElem?_append_right (by omega),L];rfl
  have c2:(ZR t 4++[0,t.tr]).getD 29 0=t.tr:=by rw[List.getD_eq_getElem?_getD,List.getElem?_append_right (by omega),L];rfl
  rw[y,c2,if_pos ⟨rfl,h0⟩,List.take_append_of_le_length (by omega),List.take_of_length_le (by omega),U]
open Go Go.RowKit Go.ChangeShapes Go.WideShapes Go.Deep
def Zpp{z:Int}(h:(Lit.int .u8 z).wf=true):∃x:UInt8,(x.toNat:Int)=z:=by
 simp only[Lit.wf,Bool.and_eq_true,decide_eq_true_eq] at h;have q:(0:Int)<=z:=h.1;have j:z<=(255:Int):=h.2;exact⟨UInt8.ofNat z.toNat,by rw[UInt8.toNat_ofNat',Nat.mod_eq_of_lt (by omega)];omega⟩
section
variable {H:Type} {enc:TypeId×Value->H} {w:World} {base:Nat} {spare:Nat->Bool} {held:Bool}
theorem Zvn{W:Nat}{cs:List Value}{x:DataW H×List MemPlace}(h:DataW.trod enc prog w base spare held W 27 cs=some x):∃a b c d e:ByteArray,cs=[.string a,.string b,.string c,.string d,.string e]/\a.size<=maxLen/\b.size<=maxLen/\c.size<=maxLen/\d.size<=maxLen/\e.size<=maxLen:=by
 obtain⟨xs,n,_,_,hl,X,L⟩:=DataW.trod_struct underlying27 h;have hC:prog.cellsOf 27=5:=by kernel_rfl
 rw[hC] at hl;have I:prog.cellsOf 9=1:=by kernel_rfl
 have J:∀j,j<5->∃y,xs[j]?=some y:=λj hj=>⟨_,List.getElem?_eq_getElem (by rw[X];exact hj)⟩
 obtain⟨y0,e0⟩:=J 0 (by omega);have g0:=L 0 _ rfl;rw[e0] at g0;obtain⟨y1,e1⟩:=J 1 (by omega);have V:=L 1 _ rfl;rw[e1] at V;obtain⟨y2,e2⟩:=J 2 (by omega);have U:=L 2 _ rfl;rw[e2] at U;obtain⟨y3,e3⟩:=J 3 (by omega);have O:=L 3 _ rfl;rw[e3] at O;obtain⟨Z,e4⟩:=J 4 (by omega);have N:=L 4 _ rfl;rw[e4] at N
 match cs,hl with
 |[D,C,c2,u,q],_=>
  change DataW.trod enc prog w base spare held n 9 ((([D,C,c2,u,q]:List Value).drop 0).take (prog.cellsOf 9))=some y0 at g0
  rw[I] at g0;change DataW.trod enc prog w base spare held n 9 [D]=some y0 at g0
  obtain⟨s0,Y,_,f0⟩:=DataW.trod_string underlying9 g0;injection Y with Y
  change DataW.trod enc prog w base spare held n 9 ((([D,C,c2,u,q]:List Value).drop 1).take (prog.cellsOf 9))=some y1 at V
  rw[I] at V;change DataW.trod enc prog w base spare held n 9 [C]=some y1 at V
  obtain⟨s1,d1,_,f1⟩:=DataW.trod_string underlying9 V;injection d1 with d1
  change DataW.trod enc prog w base spare held n 9 ((([D,C,c2,u,q]:List Value).drop 2).take (prog.cellsOf 9))=some y2 at U
  rw[I] at U;change DataW.trod enc prog w base spare held n 9 [c2]=some y2 at U
  obtain⟨s2,d2,_,f2⟩:=DataW.trod_string underlying9 U;injection d2 with d2
  change DataW.trod enc prog w base spare held n 9 ((([D,C,c2,u,q]:List Value).drop 3).take (prog.cellsOf 9))=some y3 at O
  rw[I] at O;change DataW.trod enc prog w base spare held n 9 [u]=some y3 at O
  obtain⟨s3,d3,_,f3⟩:=DataW.trod_string underlying9 O;injection d3 with d3
  change DataW.trod enc prog w base spare held n 9 ((([D,C,c2,u,q]:List Value).drop 4).take (prog.cellsOf 9))=some Z at N
  rw[I] at N;change DataW.trod enc prog w base spare held n 9 [q]=some Z at N
  obtain⟨s4,d4,_,f4⟩:=DataW.trod_string underlying9 N;injection d4 with d4
  subst Y d1 d2 d3 d4;exact⟨s0,s1,s2,s3,s4,rfl,f0,f1,f2,f3,f4⟩
theorem Zvp{C:Nat}{cs:List Value}{x:DataW H×List MemPlace}(h:DataW.trod enc prog w base spare held C 29 cs=some x):∃t:Tl,cs=[.string (B t.a),.string (B t.b),.string (B t.c),.string (B t.d),.string (B t.e),.int .u8 t.tr.toNat,.int .u8 t.g.toNat]/\∀k,(tlN t k).length<=maxLen:=by
 obtain⟨xs,n,_,_,hl,U,W⟩:=DataW.trod_struct underlying29 h;have hC:prog.cellsOf 29=7:=by kernel_rfl
 rw[hC] at hl;have o0:prog.cellsOf 27=5:=by kernel_rfl
 have o1:prog.cellsOf 5=1:=by kernel_rfl
 have V:∀j,j<3->∃y,xs[j]?=some y:=λj hj=>⟨_,List.getElem?_eq_getElem (by rw[U];exact hj)⟩
 obtain⟨Z,e0⟩:=V 0 (by omega);have g0:=W 0 _ rfl;rw[e0] at g0;obtain⟨Y,e1⟩:=V 1 (by omega);have u:=W 1 _ rfl;rw[e1] at u;obtain⟨X,e2⟩:=V 2 (by omega);have q:=W 2 _ rfl;rw[e2] at q
 match cs,hl with
 |[O,N,c2,L,J,I,D],_=>
  change DataW.trod enc prog w base spare held n 27 ((([O,N,c2,L,J,I,D]:List Value).drop 0).take (prog.cellsOf 27))=some Z at g0
  rw[o0] at g0;change DataW.trod enc prog w base spare held n 27 [O,N,c2,L,J]=some Z at g0
  change DataW.trod enc prog w base spare held n 5 ((([O,N,c2,L,J,I,D]:List Value).drop 5).take (prog.cellsOf 5))=some Y at u
  rw[o1] at u;change DataW.trod enc prog w base spare held n 5 [I]=some Y at u
  change DataW.trod enc prog w base spare held n 5 ((([O,N,c2,L,J,I,D]:List Value).drop 6).take (prog.cellsOf 5))=some X at q
  rw[o1] at q;change DataW.trod enc prog w base spare held n 5 [D]=some X at q
  obtain⟨a,b,c,d,e,d0,h1,h2,h3,h4,h5⟩:=Zvn g0;obtain⟨z1,d1,_,f1⟩:=DataW.trod_int underlying5 u;obtain⟨z2,d2,_,f2⟩:=DataW.trod_int underlying5 q;simp only[List.cons.injEq,and_true] at d0;obtain⟨k0,k1,k2,k3,k4⟩:=d0;injection d1 with d1
  injection d2 with d2
  obtain⟨u1,rfl⟩:=Zpp f1;obtain⟨u2,rfl⟩:=Zpp f2;subst k0 k1 k2 k3 k4 d1 d2;refine⟨⟨a.data.toList,b.data.toList,c.data.toList,d.data.toList,e.data.toList,u1,u2⟩,?_,λk=>?_⟩
  ·rw[<-ZdC a,<-ZdC b,<-ZdC c,<-ZdC d,<-ZdC e]
  ·have e0:∀s:ByteArray,s.data.toList.length=s.size:=λs=>rfl
   match k with
   |0=>exact h1
   |1=>exact h2
   |2=>exact h3
   |3=>exact h4
   |_+4=>exact h5
end
