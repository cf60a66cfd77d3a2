/- Lemmas for a statement on the tops; conditions: as each says. -/
import Derived.Deep.CutBlock
import Derived.Test.YtjilfbhkdjanhaaGreatDoorM15
set_option linter.all false
set_option maxRecDepth 100000
set_option maxHeartbeats 20000000
open Go.Proofs.Tryz
namespace Go.Proofs.YtjilfbhkdjanhaaGreatDoor
open Go Go.RowKit
def OwS(w0 wx:World)(v:Value)(l:List (List UInt8)):Prop:=wx.ownsRow (w0.heap.size+2) 9 1 v l.length (l.map sV)
def OwS.below{w0 w w':World}{v:Value}{l:List (List UInt8)}(h:OwS w0 w v l)(hb:Below w.heap.size w w'):OwS w0 w' v l:=ZB h hb
def ZwA(v n:Nat):(ZbM v n).length<=4:=by
 unfold ZbM;split
 ·rw[ZfV];omega
 ·split
  ·rw[ZfV];omega
  ·exact Nat.le_refl 4
def ok_ver{v:Int}{f:Fr}(h:okF v.toNat f=true):v=2\/v=3\/v=4:=by
 unfold okF ZdU at h;simp only[Bool.and_eq_true,decide_eq_true_eq] at h;have:=h.1.1;unfold Zs at this;split at this
 ·omega
 ·split at this<;>omega
def Zql(f:Fr)(v:Int)(h1:f.id.length<=200000000)(h2:f.body.length<=200000000)(bo:okF v.toNat f=true)(hg:¬(268435455<(ZD v.toNat f).length\/(v.toNat=2/\16777215<(ZD v.toNat f).length)))(w:World):
 Calls prog 182 #[.agg #[.string (B f.id),.int .u8 f.st.toNat,.int .u8 f.fm.toNat,.int .u8 f.grp.toNat,.string (B f.body),.int .i64 f.at_],.int .i64 v] w (ZdG w (fpR v.toNat f)):=by
 have hR:fpR v.toNat f=.ok (ZM v.toNat f):=by unfold fpR;rw[if_neg (by rw[bo];decide),if_neg hg]
 rw[hR];generalize hP:ZdG w (.ok (ZM v.toNat f))=P at*;have a1:=ok_ver bo;have bu:=λw=>ZgN f v (by omega) w;rw[show ckF v.toNat f=0 by unfold ckF;rw[bo];rfl] at bu;have bL:=λw=>ZG 0 0 rfl w;have bI:=λw=>ZkV f v (by omega) w;have bK:=λw=>ZgQ (B f.id) f.st f.fm v w;have bH:=λw=>Zij (B f.id) f.st f.fm v w;have bF:=λw=>Zid (B f.id) f.st f.fm v w;have bG:=λw=>Zlf f.body (by omega) w;have cz:=ZeB f.body;have cA:=ZdQ f.body;have bJ:∀w:World,Calls prog 35 #[.slice (some ⟨w.heap.size,0,none⟩) 2 2] (w.alloc (.cells #[.string (B [f.st]),.string (B [f.fm])] 9)) λe w'=>e=.returned (.string (B [f.st,f.fm]))/\Below (w.alloc (.cells #[.string (B [f.st]),.string (B [f.fm])] 9)).heap.size (w.alloc (.cells #[.string (B [f.st]),.string (B [f.fm])] 9)) w':=λw=>Zik [[f.st],[f.fm]] (by simp) (by simp) (by simp) w;have a7:ZM v.toNat f=f.id++(ZbM v.toNat (ZD v.toNat f).length++(ZdR v.toNat f++ZD v.toNat f)):=rfl;have bs:ZD v.toNat f=(if ZaC v.toNat f.fm then [f.grp] else [])++((if ZaY v.toNat f.fm then Zaq f.body.length else [])++(if Zbv v.toNat f.fm then Zag f.body else f.body)):=rfl;have b2:=ZwA v.toNat (ZD v.toNat f).length;have b3:(ZdR v.toNat f).length<=2:=by unfold ZdR;split<;>simp
 have cB:(ZD v.toNat f).length<=268435455:=by omega
 have bV:v=2->(ZD v.toNat f).length<=16777215:=by
  intro e;have:v.toNat=2:=by omega
  omega
 have bz:(ZM v.toNat f).length<=1000000000:=by
  rw[a7];simp only[List.length_append];omega
 have bn:=QQ bz;have b7:=QQ a7;have b8:=QQ bs;have b9:=QQ bV;have cm:=Zj f.body;have cp:=f.st.toNat_lt;have co:=f.fm.toNat_lt;have cn:=f.grp.toNat_lt;have ck:IntKind.u64.wrap (f.st.toNat:Int)=f.st.toNat:=by rw[IntKind.wrap_u64];omega
 have cj:IntKind.u64.wrap (f.fm.toNat:Int)=f.fm.toNat:=by rw[IntKind.wrap_u64];omega
 clear bo hR hg a7 bs bz bV b2 b3;generalize ZM v.toNat f=PR at*;generalize bA:(ZD v.toNat f)=IN at*;have cw:=QQ bA;clear bA;generalize bU:IN.length=IL at*;have cE:=QQ bU;clear bU;generalize ZaC v.toNat f.fm=G at*;generalize ZaY v.toNat f.fm=M at*;generalize Zbv v.toNat f.fm=S at*;obtain⟨l2,br⟩:∃l2:List (List UInt8),l2=[f.id]++(if v=2 then [ZbM v.toNat IL] else [ZbM v.toNat IL,[f.st,f.fm]]):=⟨_,rfl⟩
 obtain⟨l3,bq⟩:∃l3:List (List UInt8),l3=l2++(if G then [[f.grp]] else []):=⟨_,rfl⟩
 obtain⟨l4,bp⟩:∃l4:List (List UInt8),l4=l3++(if M then [Zaq f.body.length] else []):=⟨_,rfl⟩
 obtain⟨bd,ba⟩:∃bd:List UInt8,bd=if S then Zag f.body else f.body:=⟨_,rfl⟩
 have hfin:(l4++[bd]).flatten=PR:=by
  have a7:=b7.out;have bs:=b8.out;rw[a7,bs,bp,bq,br,ba];unfold ZdR;by_cases e2:v=2
  ·subst e2;cases G<;>cases M<;>simp
  ·have e3:¬v.toNat=2:=by omega
   cases G<;>cases M<;>simp[e2,e3]
 have bN:=QQ br;have aW:=QQ bq;have aV:=QQ bp;have aX:=QQ ba;have ay:=QQ hfin;have ct:l2.length<=3:=by rw[br];split<;>simp
 have cr:l3.length<=4:=by rw[bq];split<;>simp<;>omega
 have cq:l4.length<=5:=by rw[bp];split<;>simp<;>omega
 have bM:Hid (QSt w ((w.alloc (.cells (six f) 114)).alloc (.cells #[.int .i64 0,.int .i64 0] 34)) f):=QQ ⟨(Bx.new w _ _).alloc _,by have:=Bx.new (w.alloc (.cells (six f) 114)) #[.int .i64 0,.int .i64 0] 34;rw[World.size_alloc] at this;exact this,((Below.refl _ _).alloc (Nat.le_refl _) _).alloc (by simp) _⟩;have cy:¬((IL:Int)>268435455):=by omega
 clear br bq bp ba hfin;have bt:v=2->¬((IL:Int)>16777215):=by intro e;have:=b9.out e;omega
 go_enter func182,ntmps182
 by_cases a5:v=2
 ·have b6:=QQ a5;subst a5;have cx:=bt rfl;clear bt a1;go_upto_region 7 with(first
   |(go_at_call 236;refine MR (bu _) λw1 aI=>?_;have bc:=QQ (bM.below aI);clear aI)
   |(go_at_call 8;refine MR (bL _) λw2 aH=>?_;have aO:=QQ ((bc.alloc _).below aH);clear aH;obtain⟨⟨U,O,c2,N,L,J⟩,⟨D,C⟩,y,I,j⟩:=aO.cells)
   |(go_at_call 257;refine MR (bI _) λw3 ac=>?_;have ap:=QQ (aO.below ac);clear ac;clear U O c2 N L J D C y I j;obtain⟨⟨U,O,c2,N,L,J⟩,⟨D,C⟩,y,I,j⟩:=ap.cells))
  go_upto_region 8 with fail
  have bi:Hid (OwS w (w3.alloc (.cells #[.string (B f.id)] 9)) (.slice (some ⟨w3.heap.size,0,none⟩) 1 1) [f.id]):=QQ (World.ownsRow_lit (base:=w.heap.size+2) (e:=9) (size:=1) w3 #[.string (B f.id)] 1 (by have:=ap.res.lt;omega) (by decide) rfl);have ad:=QQ (ap.alloc (.cells #[.string (B f.id)] 9));clear U O c2 N L J D C y I j;obtain⟨⟨U,O,c2,N,L,J⟩,⟨D,C⟩,y,I,j⟩:=ad.cells;generalize bb:w3.alloc (.cells #[.string (B f.id)] 9)=ww at*;clear bb;go_cut [9] (λs9 wx=>s9=.string (B [f.st,f.fm])/\QSt w wx f/\OwS w wx (.slice (some ⟨w3.heap.size,0,none⟩) 1 1) [f.id])
  case first=>
   go_region_held3 (λw'=>w'.cell? ⟨w.heap.size,1,none⟩=some (.int .u8 f.st.toNat)/\w'.cell? ⟨w.heap.size,2,none⟩=some (.int .u8 f.fm.toNat))
    (first|with_reducible exact⟨ad.out.drew.cells.1.2.1,ad.out.drew.cells.1.2.2.1⟩|with_reducible exact⟨au.out.cells.1.2.1,au.out.cells.1.2.2.1⟩|with_reducible exact⟨Z.out.cells.1.2.1,Z.out.cells.1.2.2.1⟩|with_reducible exact⟨(Z.out.alloc _).cells.1.2.1,(Z.out.alloc _).cells.1.2.2.1⟩|with_reducible exact⟨aq.out.cells.1.2.1,aq.out.cells.1.2.2.1⟩)
    (first
     |(go_at_call 34;((with_reducible refine(ZdD _ _).mono ?_);rintro e wb ⟨rfl,aa⟩);first|(have au:=QQ (ad.out.drew.below aa);have bm:=QQ ((OwS.below bi.out (ZbD (Below.refl _ _))).below aa))|(have Z:=QQ (au.out.below aa);have bk:=QQ (bm.out.below aa)))
     |(go_at_call 35;refine MR (bJ _) λwj aG=>?_;have aq:=QQ ((Z.alloc _).below aG);have bj:=QQ ((OwS.below bk.out ((Below.refl _ _).alloc (Nat.le_refl _) _)).below aG)))
   all_goals
    go_wp2_with fail
    go_meet
    exact⟨rfl,aq.out,bj.out⟩
  obtain⟨rfl,aD,aE⟩:=hcut;have aN:=QQ aD;have OW:=QQ aE;clear aD aE U O c2 N L J D C y I j;obtain⟨⟨U,O,c2,N,L,J⟩,⟨D,C⟩,y,I,j⟩:=aN.cells
  go_upto_block 0 with fail
  go_cut [8] (λs8 wx=>QSt w wx f/\OwS w wx s8 l2)
  case first=>
   have ac:=λw=>ZeP IL 3 (by omega) (by omega) (by omega) w;have hq:l2=[f.id]++[ZbM (2:Int).toNat IL]:=by have:=bN.out;simpa using this
   have aB:ZbM (2:Int).toNat IL=Zas IL 3:=rfl;rw[aB] at hq;have Y:=QQ hq;clear hq aB;go_wp2_with (first
    |(go_at_call 34;refine MR (ac _) λw5 ab=>?_;have SU:=QQ (aN.below ab);have OV:=QQ (OW.below ab);have bQ:=ab.size;clear ab)
    |(at_builtin;refine Za5 rfl _ _ rfl (w.heap.size+2) (.slice (some ⟨w3.heap.size,0,none⟩) 1 1) [f.id] rfl w5 (Zas IL 3) OV.out (by have:=SU.res.lt;omega) (by simp) rfl ?_;intro v6 w6 X u W;have SX:=QQ (SU.low2 u);clear u W))
   go_meet
   exact⟨SX.out,by rw[Y.out];exact X.out⟩
  have aM:=QQ hcut.1;obtain⟨_,A6,c6,a4,bT⟩:=ZaZ hcut.2;have bh:=QQ hcut.2;subst a4;clear hcut U O c2 N L J D C y I j;obtain⟨⟨U,O,c2,N,L,J⟩,⟨D,C⟩,y,I,j⟩:=aM.cells
  go_upto_if 83 with(go_at_call 169;refine MR (bK _) λw7 q=>?_;have ao:=QQ (aM.below q);have aR:=QQ (bh.below q);clear q U O c2 N L J D C y I j;obtain⟨⟨U,O,c2,N,L,J⟩,⟨D,C⟩,y,I,j⟩:=ao.cells)
  go_cut [8] (λs8 wx=>QSt w wx f/\OwS w wx s8 l3)
  case first=>
   have a9:=λw=>ZdD f.grp w;cases G with
   |true=>
    have Y:Hid (l3=l2++[[f.grp]]):=QQ (by have:=aW.out;simpa using this);go_wp2_with (first
     |(go_at_call 34;refine MR (a9 _) λw8 V=>?_;have SU:=QQ (ao.below V);have OV:=QQ (aR.below V);clear V)
     |(at_builtin;refine Za5 rfl _ _ rfl (w.heap.size+2) (.slice A6 l2.length c6) l2 rfl w8 [f.grp] OV.out (by have:=SU.res.lt;omega) (by omega) rfl ?_;intro v6 w9 X u W;have SX:=QQ (SU.low2 u);clear u W))
    go_meet
    exact⟨SX.out,by rw[Y.out];exact X.out⟩
   |false=>
    have Y:Hid (l3=l2):=QQ (by have:=aW.out;simpa using this);go_wp2_with fail
    go_meet
    exact⟨ao.out,by rw[Y.out];exact aR.out⟩
  have aL:=QQ hcut.1;obtain⟨_,A8,c8,a3,bS⟩:=ZaZ hcut.2;have bg:=QQ hcut.2;subst a3;clear hcut U O c2 N L J D C y I j;obtain⟨⟨U,O,c2,N,L,J⟩,⟨D,C⟩,y,I,j⟩:=aL.cells
  go_upto_if 94 with(go_at_call 170;refine MR (bH _) λw7 q=>?_;have an:=QQ (aL.below q);have aQ:=QQ (bg.below q);clear q U O c2 N L J D C y I j;obtain⟨⟨U,O,c2,N,L,J⟩,⟨D,C⟩,y,I,j⟩:=an.cells)
  go_cut [8] (λs8 wx=>QSt w wx f/\OwS w wx s8 l4)
  case first=>
   have a8:=λw=>ZfJ f.body.length (by omega) w;cases M with
   |true=>
    have Y:Hid (l4=l3++[Zaq f.body.length]):=QQ (by have:=aV.out;simpa using this);go_wp2_with (first
     |(go_at_call 159;refine MR (a8 _) λw8 V=>?_;have SU:=QQ (an.below V);have OV:=QQ (aQ.below V);clear V)
     |(at_builtin;refine Za5 rfl _ _ rfl (w.heap.size+2) (.slice A8 l3.length c8) l3 rfl w8 (Zaq f.body.length) OV.out (by have:=SU.res.lt;omega) (by omega) rfl ?_;intro v6 w9 X u W;have SX:=QQ (SU.low2 u);clear u W))
    go_meet
    exact⟨SX.out,by rw[Y.out];exact X.out⟩
   |false=>
    have Y:Hid (l4=l3):=QQ (by have:=aV.out;simpa using this);go_wp2_with fail
    go_meet
    exact⟨an.out,by rw[Y.out];exact aQ.out⟩
  have aK:=QQ hcut.1;obtain⟨_,Aa,ca,a2,bR⟩:=ZaZ hcut.2;have bf:=QQ hcut.2;subst a2;clear hcut U O c2 N L J D C y I j;obtain⟨⟨U,O,c2,N,L,J⟩,⟨D,C⟩,y,I,j⟩:=aK.cells
  go_upto_if 112 with(go_at_call 171;refine MR (bF _) λw7 q=>?_;have am:=QQ (aK.below q);have aP:=QQ (bf.below q);clear q U O c2 N L J D C y I j;obtain⟨⟨U,O,c2,N,L,J⟩,⟨D,C⟩,y,I,j⟩:=am.cells)
  go_cut [14] (λaZ wx=>aZ=.string (B bd)/\QSt w wx f/\OwS w wx (.slice Aa l4.length ca) l4)
  case first=>
   cases S with
   |true=>
    have Y:Hid (bd=Zag f.body):=QQ (by have:=aX.out;simpa using this);go_wp2_with (go_at_call 238;refine MR (bG _) λw8 V=>?_)
    go_meet
    exact⟨by rw[Y.out],am.below V,aP.below V⟩
   |false=>
    have Y:Hid (bd=f.body):=QQ (by have:=aX.out;simpa using this);go_wp2_with fail
    go_meet
    exact⟨by rw[Y.out],am.out,aP.out⟩
  obtain⟨rfl,ae,af⟩:=hcut;have aJ:=QQ ae;have be:=QQ af;clear ae af U O c2 N L J D C y I j;obtain⟨⟨U,O,c2,N,L,J⟩,⟨D,C⟩,y,I,j⟩:=aJ.cells;go_wp2_with (first
   |(at_builtin;refine Za5 rfl _ _ rfl (w.heap.size+2) (.slice Aa l4.length ca) l4 rfl wc bd be.out (by omega) (by omega) rfl ?_;intro v6 w9 X u W;have SX:=QQ (aJ.low2 u);clear u W;have aC:=ZdM X.out (by simp) (by rw[ay.out];have:=bn.out;omega) (by simp;omega);rw[ay.out] at aC;clear U O c2 N L J D C y I j)
   |(go_at_call 35;refine aC.mono ?_;rintro e wz ⟨rfl,aF⟩;have SZ:=QQ (SX.below aF);clear aF;obtain⟨⟨U,O,c2,N,L,J⟩,⟨D,C⟩,y,I,j⟩:=SZ.cells))
  have F:=SZ.fin (.int .i64 0) (.int .i64 0);refine bodyPost_ret (Zap rfl _ _ (w.heap.size+1) _ _ _ _ _ rfl rfl F.1 underlying34 rfl (by kernel_rfl)) rfl ?_;rw[<-hP];exact⟨F.2,rfl⟩
 ·have b6:=QQ a5;have e2:(v==2)=false:=by simpa using a5
  by_cases bE:v=3
  ·subst bE;clear bt a1;go_upto_region 7 with(first
    |(go_at_call 236;refine MR (bu _) λw1 aI=>?_;have bc:=QQ (bM.below aI);clear aI)
    |(go_at_call 8;refine MR (bL _) λw2 aH=>?_;have aO:=QQ ((bc.alloc _).below aH);clear aH;obtain⟨⟨U,O,c2,N,L,J⟩,⟨D,C⟩,y,I,j⟩:=aO.cells)
    |(go_at_call 257;refine MR (bI _) λw3 ac=>?_;have ap:=QQ (aO.below ac);clear ac;clear U O c2 N L J D C y I j;obtain⟨⟨U,O,c2,N,L,J⟩,⟨D,C⟩,y,I,j⟩:=ap.cells))
   go_upto_region 8 with fail
   have bi:Hid (OwS w (w3.alloc (.cells #[.string (B f.id)] 9)) (.slice (some ⟨w3.heap.size,0,none⟩) 1 1) [f.id]):=QQ (World.ownsRow_lit (base:=w.heap.size+2) (e:=9) (size:=1) w3 #[.string (B f.id)] 1 (by have:=ap.res.lt;omega) (by decide) rfl);have ad:=QQ (ap.alloc (.cells #[.string (B f.id)] 9));clear U O c2 N L J D C y I j;obtain⟨⟨U,O,c2,N,L,J⟩,⟨D,C⟩,y,I,j⟩:=ad.cells;generalize bb:w3.alloc (.cells #[.string (B f.id)] 9)=ww at*;clear bb;go_cut [9] (λs9 wx=>s9=.string (B [f.st,f.fm])/\QSt w wx f/\OwS w wx (.slice (some ⟨w3.heap.size,0,none⟩) 1 1) [f.id])
   case first=>
    go_region_held3 (λw'=>w'.cell? ⟨w.heap.size,1,none⟩=some (.int .u8 f.st.toNat)/\w'.cell? ⟨w.heap.size,2,none⟩=some (.int .u8 f.fm.toNat))
     (first|with_reducible exact⟨ad.out.drew.cells.1.2.1,ad.out.drew.cells.1.2.2.1⟩|with_reducible exact⟨au.out.cells.1.2.1,au.out.cells.1.2.2.1⟩|with_reducible exact⟨Z.out.cells.1.2.1,Z.out.cells.1.2.2.1⟩|with_reducible exact⟨(Z.out.alloc _).cells.1.2.1,(Z.out.alloc _).cells.1.2.2.1⟩|with_reducible exact⟨aq.out.cells.1.2.1,aq.out.cells.1.2.2.1⟩)
     (first
      |(go_at_call 34;((with_reducible refine(ZdD _ _).mono ?_);rintro e wb ⟨rfl,aa⟩);first|(have au:=QQ (ad.out.drew.below aa);have bm:=QQ ((OwS.below bi.out (ZbD (Below.refl _ _))).below aa))|(have Z:=QQ (au.out.below aa);have bk:=QQ (bm.out.below aa)))
      |(go_at_call 35;refine MR (bJ _) λwj aG=>?_;have aq:=QQ ((Z.alloc _).below aG);have bj:=QQ ((OwS.below bk.out ((Below.refl _ _).alloc (Nat.le_refl _) _)).below aG)))
    all_goals
     go_wp2_with fail
     go_meet
     exact⟨rfl,aq.out,bj.out⟩
   obtain⟨rfl,aD,aE⟩:=hcut;have aN:=QQ aD;have OW:=QQ aE;clear aD aE U O c2 N L J D C y I j;obtain⟨⟨U,O,c2,N,L,J⟩,⟨D,C⟩,y,I,j⟩:=aN.cells
   go_upto_block 0 with fail
   go_cut [8] (λs8 wx=>QSt w wx f/\OwS w wx s8 l2)
   case first=>
    have ac:=λw=>ZeP IL 4 (by omega) (by omega) (by omega) w;have hq:l2=[f.id]++[ZbM (3:Int).toNat IL,[f.st,f.fm]]:=by have:=bN.out;simpa using this
    have aB:ZbM (3:Int).toNat IL=Zas IL 4:=rfl;rw[aB] at hq;have Y:=QQ hq;clear hq aB;go_wp2_with (first
     |(go_at_call 34;refine MR (ac _) λw5 ab=>?_;have SU:=QQ (aN.below ab);have OV:=QQ (OW.below ab);have bQ:=ab.size;clear ab)
     |(at_builtin;refine Zg4 rfl _ _ rfl (w.heap.size+2) (.slice (some ⟨w3.heap.size,0,none⟩) 1 1) [f.id] rfl w5 (Zas IL 4) [f.st,f.fm] OV.out (by have:=SU.res.lt;omega) (by simp) rfl ?_;intro v6 w6 X u W;have SX:=QQ (SU.low2 u);clear u W))
    go_meet
    exact⟨SX.out,by rw[Y.out];exact X.out⟩
   have aM:=QQ hcut.1;obtain⟨_,A6,c6,a4,bT⟩:=ZaZ hcut.2;have bh:=QQ hcut.2;subst a4;clear hcut U O c2 N L J D C y I j;obtain⟨⟨U,O,c2,N,L,J⟩,⟨D,C⟩,y,I,j⟩:=aM.cells
   go_upto_if 83 with(go_at_call 169;refine MR (bK _) λw7 q=>?_;have ao:=QQ (aM.below q);have aR:=QQ (bh.below q);clear q U O c2 N L J D C y I j;obtain⟨⟨U,O,c2,N,L,J⟩,⟨D,C⟩,y,I,j⟩:=ao.cells)
   go_cut [8] (λs8 wx=>QSt w wx f/\OwS w wx s8 l3)
   case first=>
    have a9:=λw=>ZdD f.grp w;cases G with
    |true=>
     have Y:Hid (l3=l2++[[f.grp]]):=QQ (by have:=aW.out;simpa using this);go_wp2_with (first
      |(go_at_call 34;refine MR (a9 _) λw8 V=>?_;have SU:=QQ (ao.below V);have OV:=QQ (aR.below V);clear V)
      |(at_builtin;refine Za5 rfl _ _ rfl (w.heap.size+2) (.slice A6 l2.length c6) l2 rfl w8 [f.grp] OV.out (by have:=SU.res.lt;omega) (by omega) rfl ?_;intro v6 w9 X u W;have SX:=QQ (SU.low2 u);clear u W))
     go_meet
     exact⟨SX.out,by rw[Y.out];exact X.out⟩
    |false=>
     have Y:Hid (l3=l2):=QQ (by have:=aW.out;simpa using this);go_wp2_with fail
     go_meet
     exact⟨ao.out,by rw[Y.out];exact aR.out⟩
   have aL:=QQ hcut.1;obtain⟨_,A8,c8,a3,bS⟩:=ZaZ hcut.2;have bg:=QQ hcut.2;subst a3;clear hcut U O c2 N L J D C y I j;obtain⟨⟨U,O,c2,N,L,J⟩,⟨D,C⟩,y,I,j⟩:=aL.cells
   go_upto_if 94 with(go_at_call 170;refine MR (bH _) λw7 q=>?_;have an:=QQ (aL.below q);have aQ:=QQ (bg.below q);clear q U O c2 N L J D C y I j;obtain⟨⟨U,O,c2,N,L,J⟩,⟨D,C⟩,y,I,j⟩:=an.cells)
   go_cut [8] (λs8 wx=>QSt w wx f/\OwS w wx s8 l4)
   case first=>
    have a8:=λw=>ZfJ f.body.length (by omega) w;cases M with
    |true=>
     have Y:Hid (l4=l3++[Zaq f.body.length]):=QQ (by have:=aV.out;simpa using this);go_wp2_with (first
      |(go_at_call 159;refine MR (a8 _) λw8 V=>?_;have SU:=QQ (an.below V);have OV:=QQ (aQ.below V);clear V)
      |(at_builtin;refine Za5 rfl _ _ rfl (w.heap.size+2) (.slice A8 l3.length c8) l3 rfl w8 (Zaq f.body.length) OV.out (by have:=SU.res.lt;omega) (by omega) rfl ?_;intro v6 w9 X u W;have SX:=QQ (SU.low2 u);clear u W))
     go_meet
     exact⟨SX.out,by rw[Y.out];exact X.out⟩
    |false=>
     have Y:Hid (l4=l3):=QQ (by have:=aV.out;simpa using this);go_wp2_with fail
     go_meet
     exact⟨an.out,by rw[Y.out];exact aQ.out⟩
   have aK:=QQ hcut.1;obtain⟨_,Aa,ca,a2,bR⟩:=ZaZ hcut.2;have bf:=QQ hcut.2;subst a2;clear hcut U O c2 N L J D C y I j;obtain⟨⟨U,O,c2,N,L,J⟩,⟨D,C⟩,y,I,j⟩:=aK.cells
   go_upto_if 112 with(go_at_call 171;refine MR (bF _) λw7 q=>?_;have am:=QQ (aK.below q);have aP:=QQ (bf.below q);clear q U O c2 N L J D C y I j;obtain⟨⟨U,O,c2,N,L,J⟩,⟨D,C⟩,y,I,j⟩:=am.cells)
   go_cut [14] (λaZ wx=>aZ=.string (B bd)/\QSt w wx f/\OwS w wx (.slice Aa l4.length ca) l4)
   case first=>
    cases S with
    |true=>
     have Y:Hid (bd=Zag f.body):=QQ (by have:=aX.out;simpa using this);go_wp2_with (go_at_call 238;refine MR (bG _) λw8 V=>?_)
     go_meet
     exact⟨by rw[Y.out],am.below V,aP.below V⟩
    |false=>
     have Y:Hid (bd=f.body):=QQ (by have:=aX.out;simpa using this);go_wp2_with fail
     go_meet
     exact⟨by rw[Y.out],am.out,aP.out⟩
   obtain⟨rfl,ae,af⟩:=hcut;have aJ:=QQ ae;have be:=QQ af;clear ae af U O c2 N L J D C y I j;obtain⟨⟨U,O,c2,N,L,J⟩,⟨D,C⟩,y,I,j⟩:=aJ.cells;go_wp2_with (first
    |(at_builtin;refine Za5 rfl _ _ rfl (w.heap.size+2) (.slice Aa l4.length ca) l4 rfl wc bd be.out (by omega) (by omega) rfl ?_;intro v6 w9 X u W;have SX:=QQ (aJ.low2 u);clear u W;have aC:=ZdM X.out (by simp) (by rw[ay.out];have:=bn.out;omega) (by simp;omega);rw[ay.out] at aC;clear U O c2 N L J D C y I j)
    |(go_at_call 35;refine aC.mono ?_;rintro e wz ⟨rfl,aF⟩;have SZ:=QQ (SX.below aF);clear aF;obtain⟨⟨U,O,c2,N,L,J⟩,⟨D,C⟩,y,I,j⟩:=SZ.cells))
   have F:=SZ.fin (.int .i64 0) (.int .i64 0);refine bodyPost_ret (Zap rfl _ _ (w.heap.size+1) _ _ _ _ _ rfl rfl F.1 underlying34 rfl (by kernel_rfl)) rfl ?_;rw[<-hP];exact⟨F.2,rfl⟩
  ·have b1:v=4:=by omega
   have e3:(v==3)=false:=by simpa using bE
   subst b1;clear bt a1 bE a5;go_upto_region 7 with(first
    |(go_at_call 236;refine MR (bu _) λw1 aI=>?_;have bc:=QQ (bM.below aI);clear aI)
    |(go_at_call 8;refine MR (bL _) λw2 aH=>?_;have aO:=QQ ((bc.alloc _).below aH);clear aH;obtain⟨⟨U,O,c2,N,L,J⟩,⟨D,C⟩,y,I,j⟩:=aO.cells)
    |(go_at_call 257;refine MR (bI _) λw3 ac=>?_;have ap:=QQ (aO.below ac);clear ac;clear U O c2 N L J D C y I j;obtain⟨⟨U,O,c2,N,L,J⟩,⟨D,C⟩,y,I,j⟩:=ap.cells))
   go_upto_region 8 with fail
   have bi:Hid (OwS w (w3.alloc (.cells #[.string (B f.id)] 9)) (.slice (some ⟨w3.heap.size,0,none⟩) 1 1) [f.id]):=QQ (World.ownsRow_lit (base:=w.heap.size+2) (e:=9) (size:=1) w3 #[.string (B f.id)] 1 (by have:=ap.res.lt;omega) (by decide) rfl);have ad:=QQ (ap.alloc (.cells #[.string (B f.id)] 9));clear U O c2 N L J D C y I j;obtain⟨⟨U,O,c2,N,L,J⟩,⟨D,C⟩,y,I,j⟩:=ad.cells;generalize bb:w3.alloc (.cells #[.string (B f.id)] 9)=ww at*;clear bb;go_cut [9] (λs9 wx=>s9=.string (B [f.st,f.fm])/\QSt w wx f/\OwS w wx (.slice (some ⟨w3.heap.size,0,none⟩) 1 1) [f.id])
   case first=>
    go_region_held3 (λw'=>w'.cell? ⟨w.heap.size,1,none⟩=some (.int .u8 f.st.toNat)/\w'.cell? ⟨w.heap.size,2,none⟩=some (.int .u8 f.fm.toNat))
     (first|with_reducible exact⟨ad.out.drew.cells.1.2.1,ad.out.drew.cells.1.2.2.1⟩|with_reducible exact⟨au.out.cells.1.2.1,au.out.cells.1.2.2.1⟩|with_reducible exact⟨Z.out.cells.1.2.1,Z.out.cells.1.2.2.1⟩|with_reducible exact⟨(Z.out.alloc _).cells.1.2.1,(Z.out.alloc _).cells.1.2.2.1⟩|with_reducible exact⟨aq.out.cells.1.2.1,aq.out.cells.1.2.2.1⟩)
     (first
      |(go_at_call 34;((with_reducible refine(ZdD _ _).mono ?_);rintro e wb ⟨rfl,aa⟩);first|(have au:=QQ (ad.out.drew.below aa);have bm:=QQ ((OwS.below bi.out (ZbD (Below.refl _ _))).below aa))|(have Z:=QQ (au.out.below aa);have bk:=QQ (bm.out.below aa)))
      |(go_at_call 35;refine MR (bJ _) λwj aG=>?_;have aq:=QQ ((Z.alloc _).below aG);have bj:=QQ ((OwS.below bk.out ((Below.refl _ _).alloc (Nat.le_refl _) _)).below aG)))
    all_goals
     go_wp2_with fail
     go_meet
     exact⟨rfl,aq.out,bj.out⟩
   obtain⟨rfl,aD,aE⟩:=hcut;have aN:=QQ aD;have OW:=QQ aE;clear aD aE U O c2 N L J D C y I j;obtain⟨⟨U,O,c2,N,L,J⟩,⟨D,C⟩,y,I,j⟩:=aN.cells
   go_upto_block 0 with fail
   go_cut [8] (λs8 wx=>QSt w wx f/\OwS w wx s8 l2)
   case first=>
    have ac:=λw=>ZfJ IL (by omega) w;have hq:l2=[f.id]++[ZbM (4:Int).toNat IL,[f.st,f.fm]]:=by have:=bN.out;simpa using this
    have aB:ZbM (4:Int).toNat IL=Zaq IL:=rfl;rw[aB] at hq;have Y:=QQ hq;clear hq aB;go_wp2_with (first
     |(go_at_call 159;refine MR (ac _) λw5 ab=>?_;have SU:=QQ (aN.below ab);have OV:=QQ (OW.below ab);have bQ:=ab.size;clear ab)
     |(at_builtin;refine Zg4 rfl _ _ rfl (w.heap.size+2) (.slice (some ⟨w3.heap.size,0,none⟩) 1 1) [f.id] rfl w5 (Zaq IL) [f.st,f.fm] OV.out (by have:=SU.res.lt;omega) (by simp) rfl ?_;intro v6 w6 X u W;have SX:=QQ (SU.low2 u);clear u W))
    go_meet
    exact⟨SX.out,by rw[Y.out];exact X.out⟩
   have aM:=QQ hcut.1;obtain⟨_,A6,c6,a4,bT⟩:=ZaZ hcut.2;have bh:=QQ hcut.2;subst a4;clear hcut U O c2 N L J D C y I j;obtain⟨⟨U,O,c2,N,L,J⟩,⟨D,C⟩,y,I,j⟩:=aM.cells
   go_upto_if 83 with(go_at_call 169;refine MR (bK _) λw7 q=>?_;have ao:=QQ (aM.below q);have aR:=QQ (bh.below q);clear q U O c2 N L J D C y I j;obtain⟨⟨U,O,c2,N,L,J⟩,⟨D,C⟩,y,I,j⟩:=ao.cells)
   go_cut [8] (λs8 wx=>QSt w wx f/\OwS w wx s8 l3)
   case first=>
    have a9:=λw=>ZdD f.grp w;cases G with
    |true=>
     have Y:Hid (l3=l2++[[f.grp]]):=QQ (by have:=aW.out;simpa using this);go_wp2_with (first
      |(go_at_call 34;refine MR (a9 _) λw8 V=>?_;have SU:=QQ (ao.below V);have OV:=QQ (aR.below V);clear V)
      |(at_builtin;refine Za5 rfl _ _ rfl (w.heap.size+2) (.slice A6 l2.length c6) l2 rfl w8 [f.grp] OV.out (by have:=SU.res.lt;omega) (by omega) rfl ?_;intro v6 w9 X u W;have SX:=QQ (SU.low2 u);clear u W))
     go_meet
     exact⟨SX.out,by rw[Y.out];exact X.out⟩
    |false=>
     have Y:Hid (l3=l2):=QQ (by have:=aW.out;simpa using this);go_wp2_with fail
     go_meet
     exact⟨ao.out,by rw[Y.out];exact aR.out⟩
   have aL:=QQ hcut.1;obtain⟨_,A8,c8,a3,bS⟩:=ZaZ hcut.2;have bg:=QQ hcut.2;subst a3;clear hcut U O c2 N L J D C y I j;obtain⟨⟨U,O,c2,N,L,J⟩,⟨D,C⟩,y,I,j⟩:=aL.cells
   go_upto_if 94 with(go_at_call 170;refine MR (bH _) λw7 q=>?_;have an:=QQ (aL.below q);have aQ:=QQ (bg.below q);clear q U O c2 N L J D C y I j;obtain⟨⟨U,O,c2,N,L,J⟩,⟨D,C⟩,y,I,j⟩:=an.cells)
   go_cut [8] (λs8 wx=>QSt w wx f/\OwS w wx s8 l4)
   case first=>
    have a8:=λw=>ZfJ f.body.length (by omega) w;cases M with
    |true=>
     have Y:Hid (l4=l3++[Zaq f.body.length]):=QQ (by have:=aV.out;simpa using this);go_wp2_with (first
      |(go_at_call 159;refine MR (a8 _) λw8 V=>?_;have SU:=QQ (an.below V);have OV:=QQ (aQ.below V);clear V)
      |(at_builtin;refine Za5 rfl _ _ rfl (w.heap.size+2) (.slice A8 l3.length c8) l3 rfl w8 (Zaq f.body.length) OV.out (by have:=SU.res.lt;omega) (by omega) rfl ?_;intro v6 w9 X u W;have SX:=QQ (SU.low2 u);clear u W))
     go_meet
     exact⟨SX.out,by rw[Y.out];exact X.out⟩
    |false=>
     have Y:Hid (l4=l3):=QQ (by have:=aV.out;simpa using this);go_wp2_with fail
     go_meet
     exact⟨an.out,by rw[Y.out];exact aQ.out⟩
   have aK:=QQ hcut.1;obtain⟨_,Aa,ca,a2,bR⟩:=ZaZ hcut.2;have bf:=QQ hcut.2;subst a2;clear hcut U O c2 N L J D C y I j;obtain⟨⟨U,O,c2,N,L,J⟩,⟨D,C⟩,y,I,j⟩:=aK.cells
   go_upto_if 112 with(go_at_call 171;refine MR (bF _) λw7 q=>?_;have am:=QQ (aK.below q);have aP:=QQ (bf.below q);clear q U O c2 N L J D C y I j;obtain⟨⟨U,O,c2,N,L,J⟩,⟨D,C⟩,y,I,j⟩:=am.cells)
   go_cut [14] (λaZ wx=>aZ=.string (B bd)/\QSt w wx f/\OwS w wx (.slice Aa l4.length ca) l4)
   case first=>
    cases S with
    |true=>
     have Y:Hid (bd=Zag f.body):=QQ (by have:=aX.out;simpa using this);go_wp2_with (go_at_call 238;refine MR (bG _) λw8 V=>?_)
     go_meet
     exact⟨by rw[Y.out],am.below V,aP.below V⟩
    |false=>
     have Y:Hid (bd=f.body):=QQ (by have:=aX.out;simpa using this);go_wp2_with fail
     go_meet
     exact⟨by rw[Y.out],am.out,aP.out⟩
   obtain⟨rfl,ae,af⟩:=hcut;have aJ:=QQ ae;have be:=QQ af;clear ae af U O c2 N L J D C y I j;obtain⟨⟨U,O,c2,N,L,J⟩,⟨D,C⟩,y,I,j⟩:=aJ.cells;go_wp2_with (first
    |(at_builtin;refine Za5 rfl _ _ rfl (w.heap.size+2) (.slice Aa l4.length ca) l4 rfl wc bd be.out (by omega) (by omega) rfl ?_;intro v6 w9 X u W;have SX:=QQ (aJ.low2 u);clear u W;have aC:=ZdM X.out (by simp) (by rw[ay.out];have:=bn.out;omega) (by simp;omega);rw[ay.out] at aC;clear U O c2 N L J D C y I j)
    |(go_at_call 35;refine aC.mono ?_;rintro e wz ⟨rfl,aF⟩;have SZ:=QQ (SX.below aF);clear aF;obtain⟨⟨U,O,c2,N,L,J⟩,⟨D,C⟩,y,I,j⟩:=SZ.cells))
   have F:=SZ.fin (.int .i64 0) (.int .i64 0);refine bodyPost_ret (Zap rfl _ _ (w.heap.size+1) _ _ _ _ _ rfl rfl F.1 underlying34 rfl (by kernel_rfl)) rfl ?_;rw[<-hP];exact⟨F.2,rfl⟩
def Zqi(f:Fr)(v:Int)(u:f.id.length<=200000000)(q:f.body.length<=200000000)(w:World):
 Calls prog 182 #[.agg #[.string (B f.id),.int .u8 f.st.toNat,.int .u8 f.fm.toNat,.int .u8 f.grp.toNat,.string (B f.body),.int .i64 f.at_],.int .i64 v] w (ZdG w (fpR v.toNat f)):=by
 cases j:okF v.toNat f with
 |false=>exact Zqj f v u q j w
 |true=>
  by_cases y:268435455<(ZD v.toNat f).length\/(v.toNat=2/\16777215<(ZD v.toNat f).length)
  ·exact Zqk f v u q j y w
  ·exact Zql f v u q j y w
