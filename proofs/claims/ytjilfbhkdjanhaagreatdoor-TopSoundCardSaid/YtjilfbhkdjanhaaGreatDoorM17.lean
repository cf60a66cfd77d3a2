/- Lemmas for a statement on the tops; conditions: as each says. -/
import Derived.Laws.Tables
import Derived.Laws.Rows
import Derived.Deep.WholeRow
import Derived.Test.YtjilfbhkdjanhaaGreatDoorM16
set_option linter.all false
set_option maxRecDepth 100000
set_option maxHeartbeats 4000000
open Go.Proofs.Tryz
namespace Go.Proofs.YtjilfbhkdjanhaaGreatDoor
open Go Go.RowKit
def ZaR(v:Nat)(fl:UInt8)(f:Fr):Bool:= !okF v f||(v==4&&(ZJ fl&&f.fm&&&2==0))
def Zb5(v:Nat)(rev fl:UInt8):Bool:=decide (Zs v=0)||(rev==255||fl&&& ~~~(Zg6 v) !=0)
def ZaA(v:Nat)(rev fl:UInt8)(fs:List Fr):Nat×Nat:=
 if Zb5 v rev fl then(5,0) else match fs.findIdx? (ZaR v fl) with
  |some i=>(5,i)
  |none=>if 4096<fs.length then(4,4096) else(0,0)
def ZsM(v:Nat):Zca v&&& ~~~64=Zg6 v:=by
 unfold Zca Zg6;split
 ·decide
 ·split
  ·decide
  ·split<;>decide
def Zk.at6{w:World}{y:Nat}{l:List Fr}(h:∀j u,(l.flatMap frV)[j]?=some u->w.cell? ⟨y,j,none⟩=some u){k:Nat}{f:Fr}(C:l[k]?=some f):
 w.cell? ⟨y,k*6,none⟩=some (.string (B f.id))/\w.cell? ⟨y,k*6+1,none⟩=some (.int .u8 f.st.toNat)/\w.cell? ⟨y,k*6+2,none⟩=some (.int .u8 f.fm.toNat)/\w.cell? ⟨y,k*6+3,none⟩=some (.int .u8 f.grp.toNat)/\w.cell? ⟨y,k*6+4,none⟩=some (.string (B f.body))/\w.cell? ⟨y,k*6+5,none⟩=some (.int .i64 f.at_):=by
 have q:∀j,j<6->(l.flatMap frV)[k*6+j]?=(frV f)[j]?:=λj D=>Zf3 6 frV Zt2 l k j f C D;exact⟨h _ _ (q 0 (by decide)),h _ _ (q 1 (by decide)),h _ _ (q 2 (by decide)),h _ _ (q 3 (by decide)),h _ _ (q 4 (by decide)),h _ _ (q 5 (by decide))⟩
def ZgI(w:World)(r:Nat×Nat)(e:Ending)(w':World):Prop:=e=.returned (.agg #[.int .i64 r.1,.int .i64 r.2])/\Below w.heap.size w w'
structure CSt (w0 wx:World)(v:Int)(rev fl:UInt8)(sl:Value):Prop where
 tg:Bx wx w0.heap.size #[.int .i64 v,.int .u8 rev.toNat,.int .u8 fl.toNat,sl] 41
 res:Bx wx (w0.heap.size+1) #[.int .i64 0,.int .i64 0] 34
 low:Below w0.heap.size w0 wx
section
variable {w0 w w':World} {v:Int} {rev fl:UInt8} {sl:Value}
theorem CSt.below(h:CSt w0 w v rev fl sl)(hb:Below w.heap.size w w'):CSt w0 w' v rev fl sl:=⟨h.tg.below hb,h.res.below hb,h.low.trans (hb.mono h.low.size)⟩
theorem CSt.alloc(h:CSt w0 w v rev fl sl)(o:Obj):CSt w0 (w.alloc o) v rev fl sl:=h.below ((Below.refl _ _).alloc (Nat.le_refl _) _)
theorem CSt.cells(h:CSt w0 w v rev fl sl):(w.cell? ⟨w0.heap.size,0,none⟩=some (.int .i64 v)/\w.cell? ⟨w0.heap.size,1,none⟩=some (.int .u8 rev.toNat)/\w.cell? ⟨w0.heap.size,2,none⟩=some (.int .u8 fl.toNat)/\w.cell? ⟨w0.heap.size,3,none⟩=some sl)/\
 (w.cell? ⟨w0.heap.size+1,0,none⟩=some (.int .i64 0)/\w.cell? ⟨w0.heap.size+1,1,none⟩=some (.int .i64 0))/\(∀j,w.frozen? ⟨w0.heap.size+1,j,none⟩=false)/\w0.heap.size<w.heap.size/\w0.heap.size+2<=w.heap.size:=
 ⟨⟨h.tg.cell 0,h.tg.cell 1,h.tg.cell 2,h.tg.cell 3⟩,⟨h.res.cell 0,h.res.cell 1⟩,h.res.free,h.tg.lt,h.res.lt⟩
theorem CSt.fin(h:CSt w0 w v rev fl sl)(x y:Value):Bx ((w.setCell ⟨w0.heap.size+1,0,none⟩ x).setCell ⟨w0.heap.size+1,1,none⟩ y) (w0.heap.size+1) #[x,y] 34/\Below w0.heap.size w0 ((w.setCell ⟨w0.heap.size+1,0,none⟩ x).setCell ⟨w0.heap.size+1,1,none⟩ y):=
 ⟨Zal h.res x y,(h.low.setCell (p:=⟨w0.heap.size+1,0,none⟩) (Nat.le_succ _) x).setCell (p:=⟨w0.heap.size+1,1,none⟩) (Nat.le_succ _) y⟩
end
def ck_at{v:Nat}{rev fl:UInt8}{fs:List Fr}{k:Nat}(u:Zb5 v rev fl=false)(y:k<fs.length)(hb:ZaR v fl fs[k]=true)(q:∀j (h:j<fs.length),j<k->ZaR v fl fs[j]=false):ZaA v rev fl fs=(5,k):=by
 unfold ZaA;rw[if_neg (by rw[u];decide)];have:fs.findIdx? (ZaR v fl)=some k:=List.findIdx?_eq_some_iff_getElem.2 ⟨y,hb,λj C=>by rw[q j (by omega) C];decide⟩;rw[this]
def ck_end{v:Nat}{rev fl:UInt8}{fs:List Fr}(C:Zb5 v rev fl=false)(q:∀j (h:j<fs.length),j<fs.length->ZaR v fl fs[j]=false):ZaA v rev fl fs=if 4096<fs.length then(4,4096) else(0,0):=by
 unfold ZaA;rw[if_neg (by rw[C];decide)];have:fs.findIdx? (ZaR v fl)=none:=List.findIdx?_eq_none_iff.2 λx y=>by
  obtain⟨j,u,rfl⟩:=List.getElem_of_mem y;exact q j u u
 rw[this]
def CkRel(q:Nat)(fl:UInt8)(w0:World)(v:Int)(rev:UInt8)(sl:Value)(fs:List Fr)(i:Value)(wx:World):Prop:=∃k:Nat,k<=fs.length/\i=.int .i64 k/\CSt w0 wx v rev fl sl/\∀j (h:j<fs.length),j<k->ZaR q fl fs[j]=false
def Zlt(v:Int)(rev fl:UInt8)(A:Option Addr)(c:Nat)(fs:List Fr)(B0:Nat)(w:World)(hr:Zk frV B0 w (.slice A fs.length c) fs)(hn:fs.length<=100000)(hid:∀f∈fs,f.id.length<=1000000000):
 Calls prog 157 #[.agg #[.int .i64 v,.int .u8 rev.toNat,.int .u8 fl.toNat,.slice A fs.length c]] w (ZgI w (ZaA v.toNat rev fl fs)):=by
 generalize hP:ZgI w (ZaA v.toNat rev fl fs)=P at*;have a6:=λw=>ZkD v w;have W:=λw=>ZfG v w;have aO:=Zg2 (Zca v.toNat) 64 64 rfl;rw[ZsM] at aO;obtain⟨I,aq⟩:∃x,x=Zg6 v.toNat:=⟨_,rfl⟩
 rw[<-aq] at aO;obtain⟨x8,an⟩:∃x,x=fl&&& ~~~I:=⟨_,rfl⟩
 have aN:=Zg2 fl I.toNat I rfl;rw[<-an] at aN;have a9:Hid (Zb5 v.toNat rev fl=(decide (Zs v.toNat=0)||(rev==255||x8 !=0))):=QQ (by rw[an,aq];rfl);have aA:Hid (CSt w ((w.alloc (.cells #[.int .i64 v,.int .u8 rev.toNat,.int .u8 fl.toNat,.slice A fs.length c] 41)).alloc (.cells #[.int .i64 0,.int .i64 0] 34)) v rev fl (.slice A fs.length c)):=QQ ⟨(Bx.new w _ _).alloc _,by have:=Bx.new (w.alloc (.cells #[.int .i64 v,.int .u8 rev.toNat,.int .u8 fl.toNat,.slice A fs.length c] 41)) #[.int .i64 0,.int .i64 0] 34;rw[World.size_alloc] at this;exact this,((Below.refl _ _).alloc (Nat.le_refl _) _).alloc (by simp) _⟩;have HR:=QQ hr;clear aq an hr;generalize Zca v.toNat=bE at*;obtain⟨⟨c0,c1,c2,c3⟩,⟨r0,r1⟩,Z,l1,l2⟩:=aA.cells;go_enter func157,ntmps157
 go_upto_region 2 with(go_at_call 52;refine(a6 _).mono ?_;rintro e w1 ⟨rfl,rfl⟩)
 generalize a7:(w.alloc (.cells #[.int .i64 v,.int .u8 rev.toNat,.int .u8 fl.toNat,.slice A fs.length c] 41)).alloc (.cells #[.int .i64 0,.int .i64 0] 34)=ww at*;clear a7;go_cut [30] (λa1 wx=>a1=.bool (Zb5 v.toNat rev fl)/\wx=ww)
 case first=>
  have hw:=a9.out;by_cases h0:Zs v.toNat=0
  ·have hv:((Zs v.toNat:Int)==0)=true:=by rw[h0];rfl
   have Hw:Hid (Zb5 v.toNat rev fl=true):=QQ (by rw[hw,h0];rfl);clear hw h0;go_wp2_with (go_at_call 50;refine(W _).mono ?_;rintro e w1 ⟨rfl,rfl⟩)
   go_meet
   exact⟨by rw[Hw.out],rfl⟩
  ·have hv:((Zs v.toNat:Int)==0)=false:=by rw[beq_eq_false_iff_ne];omega
   rw[show decide (Zs v.toNat=0)=false by simpa using h0,Bool.false_or] at hw;by_cases h5:rev=255
   ·have a2:((rev.toNat:Int)==255)=true:=by rw[h5];rfl
    have Hw:Hid (Zb5 v.toNat rev fl=true):=QQ (by rw[hw,h5];rfl);clear hw h0 h5;go_wp2_with (go_at_call 50;refine(W _).mono ?_;rintro e w1 ⟨rfl,rfl⟩)
    go_meet
    exact⟨by rw[Hw.out],rfl⟩
   ·have a2:((rev.toNat:Int)==255)=false:=by rw[beq_eq_false_iff_ne];exact λe=>h5 (UInt8.toNat_inj.1 (by show rev.toNat=255;omega))
    rw[show(rev==255)=false by simpa using h5,Bool.false_or] at hw;have hx:=ZdV x8;rw[<-hw] at hx;generalize Zb5 v.toNat rev fl=wt at*;clear hw h0 h5;cases wt with
    |true=>
     go_wp2_with (go_at_call 50;refine(W _).mono ?_;rintro e w1 ⟨rfl,rfl⟩)
     go_meet
     exact⟨rfl,rfl⟩
    |false=>
     go_wp2_with (go_at_call 50;refine(W _).mono ?_;rintro e w1 ⟨rfl,rfl⟩)
     go_meet
     exact⟨rfl,rfl⟩
 obtain⟨rfl,rfl⟩:=hcut;cases hW:Zb5 v.toNat rev fl with
 |true=>
  go_wp2_with fail
  have F:=aA.fin (.int .i64 5) (.int .i64 0);refine bodyPost_ret (results_cell_row rfl _ _ (w.heap.size+1) _ _ _ _ rfl F.1 underlying34 rfl (by kernel_rfl)) rfl ?_;rw[<-hP];refine⟨?_,F.2⟩;unfold ZaA;rw[if_pos hW];rfl
 |false=>
  have HW:=QQ hW;clear hW;have af:∀(k:Nat) (f:Fr),fs[k]?=some f->∃X,A=some ⟨X,0,none⟩/\X<w.heap.size/\∀j u,(fs.flatMap frV)[j]?=some u->w.cell? ⟨X,j,none⟩=some u:=by
   intro k f hk;rcases HR.out with⟨h0,_⟩|⟨X,c',h0,h1,h2,h5,h3,h4⟩
   ·rw[h0] at hk;simp at hk
   ·simp only[Value.slice.injEq] at h1;exact⟨X,h1.1,h3,h4⟩
  have aR:=QQ af;clear af;go_wp2_with fail
  go_loopw [35] (λi wx=>CkRel v.toNat fl w v rev (.slice A fs.length c) fs i wx) (λi _=>fs.length - (intOf i).toNat)
  case atStart=>exact⟨0,Nat.zero_le _,rfl,aA.out,λj _ h=>by omega⟩
  case round=>
   obtain⟨k,hk,rfl,aH,aM⟩:=hrel;have ST:=QQ aH;have Y:=QQ aM;clear aH aM c0 c1 c2 c3 r0 r1 Z l1 l2;obtain⟨⟨c0,c1,c2,c3⟩,⟨r0,r1⟩,Z,l1,l2⟩:=ST.cells;by_cases N:k<fs.length
   ·obtain⟨f,hf⟩:∃f,fs[k]?=some f:=⟨_,List.getElem?_eq_getElem N⟩
    obtain⟨X,hA,aL,aK⟩:=aR.out k f hf;have bb:=QQ (Zk.at6 (w:=wr) (λj u hu=>(ST.low.cell (p:=⟨X,j,none⟩) aL).trans (aK j u hu)) hf);have Hf:=QQ hf;have U:=λw=>ZgN f v (hid f (List.mem_of_getElem? hf)) w;clear aK hf;obtain⟨y0,y1,y2,y3,y4,y5⟩:=bb.out;subst hA;have bi:X<wr.heap.size:=Nat.lt_of_lt_of_le aL ST.low.size;cases J:okF v.toNat f with
    |false=>
     rw[show ckF v.toNat f=5 by unfold ckF;rw[J];rfl] at U;have ap:=λw=>ZV 5 0 (by decide) w;have aT:Hid (ZaR v.toNat fl f=true):=QQ (by unfold ZaR;rw[J];rfl);clear J;go_wp2_with (first
      |(go_at_call 236;refine MR (U _) λw1 D=>?_;have az:=QQ ((ST.alloc _).below D);have FB:=QQ ((Bx.new wr (six f) 114).below D);clear D)
      |(go_at_call 8;refine MR (ap _) λw2 C=>?_;have y:=QQ ((az.alloc _).below C);have GB:=QQ ((Bx.new w1 _ _).below C);clear C c0 c1 c2 c3 r0 r1 Z l1 l2;obtain⟨⟨c0,c1,c2,c3⟩,⟨r0,r1⟩,Z,l1,l2⟩:=y.cells;have x0:=GB.cell 0;have x1:=GB.cell 1;have xl:=GB.lt))
     have F:=y.fin (.int .i64 5) (.int .i64 k);refine bodyPost_ret (results_cell_row rfl _ _ (w.heap.size+1) _ _ _ _ rfl F.1 underlying34 rfl (by kernel_rfl)) rfl ?_;rw[<-hP];refine⟨?_,F.2⟩;rw[ck_at HW.out N (by have h9:=Hf.out;rw[List.getElem?_eq_getElem N] at h9;injection h9 with h9;rw[h9];exact aT.out) Y.out];rfl
    |true=>
     rw[show ckF v.toNat f=0 by unfold ckF;rw[J];rfl] at U;have ap:=λw=>ZG 0 0 rfl w;have ao:=λw=>Zit v rev fl w;have bc:Hid (ZaR v.toNat fl f=(v.toNat==4&&(ZJ fl&&f.fm&&&2==0))):=QQ (by unfold ZaR;rw[J];rfl);clear J;generalize ZJ fl=sp at*;go_upto_region 10 with(first
      |(go_at_call 236;refine MR (U _) λw1 D=>?_;have az:=QQ ((ST.alloc _).below D);have FB:=QQ ((Bx.new wr (six f) 114).below D);clear D)
      |(go_at_call 8;refine MR (ap _) λw2 C=>?_;have y:=QQ ((az.alloc _).below C);have GB:Hid (Zq w2 wr.heap.size f):=QQ (Bx.below (FB.alloc _) C);clear C c0 c1 c2 c3 r0 r1 Z l1 l2;obtain⟨⟨c0,c1,c2,c3⟩,⟨r0,r1⟩,Z,l1,l2⟩:=y.cells;obtain⟨x0,x1,x2,x3,x4,x5⟩:=GB.get;have xl:=GB.lt))
     go_cut [66] (λaZ wx=>aZ=.bool (ZaR v.toNat fl f)/\CSt w wx v rev fl (.slice (some ⟨X,0,none⟩) fs.length c))
     case first=>
      have hb:=bc.out;have bj:=ZcK f.fm 2 2 rfl;by_cases h4:v=4
      ·subst h4;rw[show((4:Int).toNat==4)=true from rfl,Bool.true_and] at hb;cases sp with
       |true=>
        rw[Bool.true_and] at hb;by_cases h2:f.fm&&&2=0
        ·have hq:(((f.fm.toNat&&&2:Nat):Int)==0)=true:=by
          have:=congrArg UInt8.toNat h2;rw[UInt8.toNat_and] at this;rw[beq_iff_eq];exact_mod_cast this
         have Hb:Hid (ZaR (4:Int).toNat fl f=true):=QQ (by rw[hb];simpa using h2);clear hb h2;go_wp2_with (go_at_call 56;refine MR (ao _) λw3 q=>?_;have O:=QQ (y.below q);have aE:=QQ (Zq.below GB.out q);clear q x0 x1 x2 x3 x4 x5;obtain⟨x0,x1,x2,x3,x4,x5⟩:=aE.get)
         go_meet
         exact⟨by rw[Hb.out],O.out⟩
        ·have hq:(((f.fm.toNat&&&2:Nat):Int)==0)=false:=by
          rw[beq_eq_false_iff_ne];intro e;apply h2
          apply UInt8.toNat_inj.1
          rw[UInt8.toNat_and];exact_mod_cast e
         have Hb:Hid (ZaR (4:Int).toNat fl f=false):=QQ (by rw[hb];simpa using h2);clear hb h2;go_wp2_with (go_at_call 56;refine MR (ao _) λw3 q=>?_;have O:=QQ (y.below q);have aE:=QQ (Zq.below GB.out q);clear q x0 x1 x2 x3 x4 x5;obtain⟨x0,x1,x2,x3,x4,x5⟩:=aE.get)
         go_meet
         exact⟨by rw[Hb.out],O.out⟩
       |false=>
        rw[Bool.false_and] at hb;have Hb:=QQ hb;clear hb;go_wp2_with (go_at_call 56;refine MR (ao _) λw3 q=>?_;have O:=QQ (y.below q);clear q)
        go_meet
        exact⟨by rw[Hb.out],O.out⟩
      ·have bu:(v==4)=false:=by simpa using h4
       rw[show(v.toNat==4)=false by rw[beq_eq_false_iff_ne];omega,Bool.false_and] at hb;have Hb:=QQ hb;clear hb h4;go_wp2_with fail
       go_meet
       exact⟨by rw[Hb.out],y.out⟩
     obtain⟨rfl,hcut⟩:=hcut;have ay:=QQ hcut;clear hcut c0 c1 c2 c3 r0 r1 Z l1 l2;obtain⟨⟨c0,c1,c2,c3⟩,⟨r0,r1⟩,Z,l1,l2⟩:=ay.cells;have aI:fs[k]=f:=by have h9:=Hf.out;rw[List.getElem?_eq_getElem N] at h9;injection h9
     have aS:=QQ aI;clear aI;cases V:ZaR v.toNat fl f with
     |true=>
      have aC:=QQ V;clear V;go_wp2_with fail
      have F:=ay.fin (.int .i64 5) (.int .i64 k);refine bodyPost_ret (results_cell_row rfl _ _ (w.heap.size+1) _ _ _ _ rfl F.1 underlying34 rfl (by kernel_rfl)) rfl ?_;rw[<-hP];refine⟨?_,F.2⟩;rw[ck_at HW.out N (by rw[aS.out];exact aC.out) Y.out];rfl
     |false=>
      have aC:=QQ V;clear V;go_wp2_with fail
      go_roundw
      case rel=>
       refine⟨k+1,by omega,by go_num,ay.out,λj hj bA=>?_⟩;by_cases e:j=k
       ·subst e;rw[aS.out];exact aC.out
       ·exact Y.out j hj (by omega)
      case measure=>simp[intOf];omega
   ·have a3:k=fs.length:=by omega
    subst a3;have L:=ck_end HW.out Y.out;by_cases hg:4096<fs.length
    ·have a5:(fs.length:Int)>4096:=by omega
     rw[if_pos hg] at L;have aB:=QQ L;clear L hg;go_wp2_with fail
     have F:=ST.fin (.int .i64 4) (.int .i64 4096);refine bodyPost_ret (results_cell_row rfl _ _ (w.heap.size+1) _ _ _ _ rfl F.1 underlying34 rfl (by kernel_rfl)) rfl ?_;rw[<-hP];exact⟨by rw[aB.out];rfl,F.2⟩
    ·have a5:¬(fs.length:Int)>4096:=by omega
     rw[if_neg hg] at L;have aB:=QQ L;clear L hg;go_wp2_with fail
     have F:=ST.fin (.int .i64 0) (.int .i64 0);refine bodyPost_ret (results_cell_row rfl _ _ (w.heap.size+1) _ _ _ _ rfl F.1 underlying34 rfl (by kernel_rfl)) rfl ?_;rw[<-hP];exact⟨by rw[aB.out];rfl,F.2⟩
def Zr7(a:Option Addr)(n c:Nat)(hn:n=0)(w:World):
 Calls prog 35 #[.slice a n c] w λe w'=>e=.returned (.string ⟨#[]⟩)/\w=w':=by
 subst hn;have j:=strings_Join_none a c ⟨#[]⟩;go_enter func35,ntmps35
 go_wp2_with (go_at_call 67;refine(j _).mono ?_;rintro e q ⟨rfl,rfl⟩)
 go_ret
 exact⟨rfl,rfl⟩
def Zk8{base:Nat}{v:Value}{l:List (List UInt8)}{w:World}(h:w.ownsRow base 9 1 v l.length (l.map sV))(q:l.flatten.length<=35184372089000)(hn:l.length<=35184372089000):
 Calls prog 35 #[v] w λe w'=>e=.returned (.string (B l.flatten))/\Below w.heap.size w w':=by
 by_cases j:l=[]
 ·subst j;obtain⟨_,A,c,rfl,_⟩:=ZaZ h;refine(Zr7 A _ c rfl w).mono ?_;rintro e w' ⟨rfl,rfl⟩;exact⟨rfl,Below.refl _ _⟩
 ·exact ZdM h j q hn
def Zaf(v:Nat)(fs:List Fr)(k:Nat):List (List UInt8):=(fs.take k).map (ZM v)
def ZvR(v:Nat)(fs:List Fr)(k:Nat)(f:Fr)(h:fs[k]?=some f):Zaf v fs (k+1)=Zaf v fs k++[ZM v f]:=by
 unfold Zaf;rw[List.take_add_one,h];simp
def ZoB(v:Nat)(fs:List Fr)(k:Nat):(Zaf v fs k).flatten.length<=((fs.map (ZM v)).flatten).length:=by
 have:fs.map (ZM v)=Zaf v fs k++(fs.drop k).map (ZM v):=by
  unfold Zaf;rw[<-List.map_append,List.take_append_drop]
 rw[this,List.flatten_append,List.length_append];omega
def fr_le(v:Nat)(f:Fr):f.id.length<=(ZM v f).length/\f.body.length<=(ZM v f).length/\(ZD v f).length<=(ZM v f).length:=by
 have:=ZsO v f;have h:ZM v f=f.id++(ZbM v (ZD v f).length++(ZdR v f++ZD v f)):=rfl;rw[h];simp only[List.length_append];omega
structure ESt (w0 wx:World)(v:Int)(rev fl:UInt8)(sl vl:Value)(l:List (List UInt8)):Prop where
 st:CSt w0 wx v rev fl sl
 own:OwS w0 wx vl l
def ESt.below{w0 w w':World}{v:Int}{rev fl:UInt8}{sl vl:Value}{l:List (List UInt8)}(h:ESt w0 w v rev fl sl vl l)(hb:Below w.heap.size w w'):ESt w0 w' v rev fl sl vl l:=⟨h.st.below hb,h.own.below hb⟩
def CSt.low2{w0 w w':World}{v:Int}{rev fl:UInt8}{sl:Value}(h:CSt w0 w v rev fl sl)(hb:Below (w0.heap.size+2) w w'):CSt w0 w' v rev fl sl:=
 ⟨(hb.block _ (by omega)).trans h.tg,(hb.block _ (by omega)).trans h.res,h.low.trans (hb.mono (by omega))⟩
def BdRel(j:Nat)(w0:World)(v:Int)(rev fl:UInt8)(sl:Value)(fs:List Fr)(vl m i:Value)(wx:World):Prop:=∃k:Nat,k<=fs.length/\i=.int .i64 k/\m=.int .i64 ((Zaf j fs k).flatten.length:Nat)/\ESt w0 wx v rev fl sl vl (Zaf j fs k)
def ZeO(w:World)(s:List UInt8)(e:Ending)(w':World):Prop:=e=.returned (.tuple #[.string (B s),.agg #[.int .i64 0,.int .i64 0]])/\Below w.heap.size w w'
def Zr6(v:Int)(rev fl:UInt8)(A:Option Addr)(c:Nat)(fs:List Fr)(B0:Nat)(w:World)(hr:Zk frV B0 w (.slice A fs.length c) fs)(hn:fs.length<=100000)(an:∀f∈fs,okF v.toNat f=true)
 (h2:v=2->∀f∈fs,(ZD 2 f).length<=16777215) (aa:((fs.map (ZM v.toNat)).flatten).length<=130000000):
 Calls prog 158 #[.agg #[.int .i64 v,.int .u8 rev.toNat,.int .u8 fl.toNat,.slice A fs.length c]] w (ZeO w (ZaS ⟨v.toNat,rev,fl,fs⟩)):=by
 generalize hP:ZeO w (ZaS ⟨v.toNat,rev,fl,fs⟩)=P at*;have aV:Hid (ZaS ⟨v.toNat,rev,fl,fs⟩=if ZcV v.toNat fl then Zag (Zaf v.toNat fs fs.length).flatten else(Zaf v.toNat fs fs.length).flatten):=QQ (by unfold ZaS allT Zaf;rw[List.take_length]);have aA:Hid (CSt w ((w.alloc (.cells #[.int .i64 v,.int .u8 rev.toNat,.int .u8 fl.toNat,.slice A fs.length c] 41)).alloc (.cells #[.int .i64 0,.int .i64 0] 34)) v rev fl (.slice A fs.length c)):=QQ ⟨(Bx.new w _ _).alloc _,by have:=Bx.new (w.alloc (.cells #[.int .i64 v,.int .u8 rev.toNat,.int .u8 fl.toNat,.slice A fs.length c] 41)) #[.int .i64 0,.int .i64 0] 34;rw[World.size_alloc] at this;exact this,((Below.refl _ _).alloc (Nat.le_refl _) _).alloc (by simp) _⟩;obtain⟨⟨Y,X,c2,W⟩,⟨O,L⟩,J,V,U⟩:=aA.cells;have aC:Hid (∀(k:Nat) (f:Fr),fs[k]?=some f->∃bk,A=some ⟨bk,0,none⟩/\bk<w.heap.size/\∀j u,(fs.flatMap frV)[j]?=some u->w.cell? ⟨bk,j,none⟩=some u):=QQ (by
  intro k f hk;rcases hr with⟨h0,_⟩|⟨bk,c',h0,h1,h2,h5,h3,h4⟩
  ·rw[h0] at hk;simp at hk
  ·simp only[Value.slice.injEq] at h1;exact⟨bk,h1.1,h3,h4⟩)
 have aU:=QQ an;have H2:=QQ h2;have ac:=QQ aa;clear hr an h2 aa;go_enter func158,ntmps158
 go_wp2_with fail
 go_loopw [4,5,15] (λvl m i wx=>BdRel v.toNat w v rev fl (.slice A fs.length c) fs vl m i wx) (λ_ _ i _=>fs.length - (intOf i).toNat)
 case atStart=>exact⟨0,Nat.zero_le _,rfl,rfl,aA.out,⟨rfl,.inl ⟨rfl,rfl⟩⟩⟩
 case round=>
  obtain⟨k,hk,rfl,rfl,ae⟩:=hrel;obtain⟨_,A4,c4,aE,bg⟩:=ZaZ ae.own;subst aE;have ST:=QQ ae;have aH:=ZoB v.toNat fs k;have af:=ac.out;have aO:(Zaf v.toNat fs k).flatten.length<=130000000:=by omega
  have bd:(Zaf v.toNat fs k).length<=100000:=by unfold Zaf;simp;omega
  clear ae Y X c2 W O L J V U aH af;obtain⟨⟨Y,X,c2,W⟩,⟨O,L⟩,J,V,U⟩:=ST.st.cells;by_cases aI:k<fs.length
  ·obtain⟨f,hf⟩:∃f,fs[k]?=some f:=⟨_,List.getElem?_eq_getElem aI⟩
   obtain⟨bk,hA,ax,aw⟩:=aC.out k f hf;obtain⟨y0,y1,y2,y3,y4,y5⟩:=Zk.at6 (w:=wr) (λj u hu=>(ST.st.low.cell (p:=⟨bk,j,none⟩) ax).trans (aw j u hu)) hf;have q:=List.mem_of_getElem? hf;have ah:=ZvR v.toNat fs k f hf;have ao:=ZoB v.toNat fs (k+1);have af:=ac.out;have aq:=fr_le v.toNat f;have y:(Zaf v.toNat fs (k+1)).flatten.length=(Zaf v.toNat fs k).flatten.length+(ZM v.toNat f).length:=by rw[ah];simp
   have aG:∀w:World,Calls prog 182 #[.agg #[.string (B f.id),.int .u8 f.st.toNat,.int .u8 f.fm.toNat,.int .u8 f.grp.toNat,.string (B f.body),.int .i64 f.at_],.int .i64 v] w λe w'=>e=.returned (.tuple #[.string (B (ZM v.toNat f)),.agg #[.int .i64 0,.int .i64 0]])/\Below w.heap.size w w':=by
    intro w;refine(Zqi f v (by omega) (by omega) w).mono ?_;intro e w' h;have aM:fpR v.toNat f=.ok (ZM v.toNat f):=by
     unfold fpR;rw[if_neg (by rw[aU.out f q];decide),if_neg];rintro(h|⟨h,h'⟩)
     ·omega
     ·have:=H2.out (by omega) f q;rw[h] at h';omega
    unfold ZdG at h;rw[aM] at h;exact⟨h.2,h.1⟩
   have aT:=QQ ah;have ak:=QQ y;have be:(Zaf v.toNat fs k).flatten.length+(ZM v.toNat f).length<=130000000:=by omega
   have aZ:=Zj (ZM v.toNat f);have a3:bk<wr.heap.size:=Nat.lt_of_lt_of_le ax ST.st.low.size;have aP:=λw=>ZG 0 0 rfl w;subst hA;clear aw hf q ah y ao af aq;generalize (Zaf v.toNat fs k).flatten.length=N at*;generalize ZM v.toNat f=pf at*;go_wp2_with (first
    |(go_at_call 182;refine MR (aG _) λw1 az=>?_;have aS:=QQ ((ESt.below ST.out ((Below.refl _ _).alloc (Nat.le_refl _) _)).below az);clear az)
    |(go_at_call 8;refine MR (aP _) λw2 ay=>?_;have aj:=QQ ((ESt.below aS.out ((Below.refl _ _).alloc (Nat.le_refl _) _)).below ay);clear ay;have bb:=aj.st.res.lt)
    |(at_builtin;refine Za5 rfl _ _ rfl (w.heap.size+2) (.slice A4 (Zaf v.toNat fs k).length c4) (Zaf v.toNat fs k) rfl w2 pf aj.own (by omega) (by omega) rfl ?_;intro v6 w9 aW C aL;have SX:=QQ (aj.st.low2 C);clear C aL))
   go_roundw
   case rel=>exact⟨k+1,by omega,by go_num,by rw[ak.out];go_num,SX.out,by rw[aT.out];exact aW.out⟩
   case measure=>simp[intOf];omega
  ·have aJ:k=fs.length:=by omega
   subst aJ;have Z:=λw=>Zly v rev fl w;obtain⟨b,hb⟩:∃b,b=(Zaf v.toNat fs fs.length).flatten:=⟨_,rfl⟩
   have ai:=aV.out;rw[<-hb] at ai aO;have ad:=QQ ai;have a1:=Zj b;have aN:=λw=>Zic b (by omega) w;have bf:=ZdQ b;have aF:=λw=>Zlf b (by omega) w;have ap:∀wx,OwS w wx (.slice A4 (Zaf v.toNat fs fs.length).length c4) (Zaf v.toNat fs fs.length)->Calls prog 35 #[.slice A4 (Zaf v.toNat fs fs.length).length c4] wx λe w'=>e=.returned (.string (B b))/\Below wx.heap.size wx w':=by
    intro wx h;rw[hb];exact Zk8 h (by rw[<-hb];omega) (by omega)
   rw[<-hb];clear ai hb;generalize (Zaf v.toNat fs fs.length).length=pl at*;generalize ZaK b=E at*;cases hW:ZcV v.toNat fl with
   |false=>
    rw[hW] at Z;have HB:Hid (ZaS ⟨v.toNat,rev,fl,fs⟩=b):=QQ (by rw[ad.out,hW];rfl);clear hW;go_wp2_with (first
     |(go_at_call 35;refine MR (ap _ (ESt.below ST.out ((Below.refl _ _).alloc (Nat.le_refl _) _)).own) λw3 I=>?_;have S3:=QQ ((CSt.alloc ST.st _).below I);clear I Y X c2 W O L J V U;obtain⟨⟨Y,X,c2,W⟩,⟨O,L⟩,J,V,U⟩:=S3.cells)
     |(go_at_call 22;refine MR (Z _) λw4 D=>?_;have S4:=QQ (S3.below D);clear D Y X c2 W O L J V U;obtain⟨⟨Y,X,c2,W⟩,⟨O,L⟩,J,V,U⟩:=S4.cells))
    have F:=S4.fin (.int .i64 0) (.int .i64 0);refine bodyPost_ret (Zap rfl _ _ (w.heap.size+1) _ _ _ _ _ rfl rfl F.1 underlying34 rfl (by kernel_rfl)) rfl ?_;rw[<-hP,HB.out];exact⟨rfl,F.2⟩
   |true=>
    rw[hW] at Z;have HB:Hid (ZaS ⟨v.toNat,rev,fl,fs⟩=Zag b):=QQ (by rw[ad.out,hW];rfl);clear hW;go_wp2_with (first
     |(go_at_call 35;refine MR (ap _ (ESt.below ST.out ((Below.refl _ _).alloc (Nat.le_refl _) _)).own) λw3 I=>?_;have S3:=QQ ((CSt.alloc ST.st _).below I);clear I Y X c2 W O L J V U;obtain⟨⟨Y,X,c2,W⟩,⟨O,L⟩,J,V,U⟩:=S3.cells)
     |(go_at_call 22;refine MR (Z _) λw4 D=>?_;have S4:=QQ (S3.below D);clear D Y X c2 W O L J V U)
     |(go_at_call 237;refine(aN _).mono ?_;rintro e w5 ⟨rfl,rfl⟩)
     |(go_at_call 238;refine MR (aF _) λw6 C=>?_;have S5:=QQ (S4.below C);clear C;obtain⟨⟨Y,X,c2,W⟩,⟨O,L⟩,J,V,U⟩:=S5.cells))
    have F:=S5.fin (.int .i64 0) (.int .i64 0);refine bodyPost_ret (Zap rfl _ _ (w.heap.size+1) _ _ _ _ _ rfl rfl F.1 underlying34 rfl (by kernel_rfl)) rfl ?_;rw[<-hP,HB.out];exact⟨rfl,F.2⟩
def Zl0(v:Nat)(rev fl:UInt8)(fs:List Fr):(ZaS ⟨v,rev,fl,fs⟩).length<=2*((fs.map (ZM v)).flatten).length:=by
 unfold ZaS allT;have q:=ZeB ((fs.map (ZM v)).flatten);have j:=ZdQ ((fs.map (ZM v)).flatten);simp only;split<;>omega
def ZxD{v:Int}{rev fl:UInt8}(h:Zb5 v.toNat rev fl=false):v=2\/v=3\/v=4:=by
 unfold Zb5 at h;simp only[Bool.or_eq_false_iff,decide_eq_false_iff_not] at h;have:=h.1;unfold Zs at this;split at this
 ·omega
 ·split at this<;>omega
def CSt.keep3{w0 w:World}{v:Int}{rev fl:UInt8}{sl:Value}(h:CSt w0 w v rev fl sl):w.cell? ⟨w0.heap.size,0,none⟩=some (.int .i64 v)/\w.cell? ⟨w0.heap.size,1,none⟩=some (.int .u8 rev.toNat)/\w.cell? ⟨w0.heap.size,2,none⟩=some (.int .u8 fl.toNat):=⟨h.tg.cell 0,h.tg.cell 1,h.tg.cell 2⟩
def Zsc(v:Int)(rev fl:UInt8)(A:Option Addr)(c:Nat)(fs:List Fr)(B0:Nat)(w:World)(hr:Zk frV B0 w (.slice A fs.length c) fs)(hn:fs.length<=100000)(hid:∀f∈fs,f.id.length<=1000000000)(af:Zb5 v.toNat rev fl=false)(aj:ZaA v.toNat rev fl fs=(0,0))(ai:∀f∈fs,okF v.toNat f=true)
 (h2:v=2->∀f∈fs,(ZD 2 f).length<=16777215) (V:((fs.map (ZM v.toNat)).flatten).length<=130000000):
 Calls prog 94 #[.agg #[.int .i64 v,.int .u8 rev.toNat,.int .u8 fl.toNat,.slice A fs.length c]] w (ZeO w (Zd3 ⟨v.toNat,rev,fl,fs⟩)):=by
 have aW:=ZxD af;have aM:=Zl0 v.toNat rev fl fs;have ah:Zd3 ⟨v.toNat,rev,fl,fs⟩=Zu++(([UInt8.ofNat v.toNat,rev,fl]++Zaq (ZaS ⟨v.toNat,rev,fl,fs⟩).length)++(ZaS ⟨v.toNat,rev,fl,fs⟩++(if ZbZ v.toNat fl then ZaB++([UInt8.ofNat v.toNat,rev,fl]++Zaq (ZaS ⟨v.toNat,rev,fl,fs⟩).length) else []))):=rfl;generalize hP:ZeO w (Zd3 ⟨v.toNat,rev,fl,fs⟩)=P at*;have ad:Hid (CSt w ((w.alloc (.cells #[.int .i64 v,.int .u8 rev.toNat,.int .u8 fl.toNat,.slice A fs.length c] 41)).alloc (.cells #[.int .i64 0,.int .i64 0] 34)) v rev fl (.slice A fs.length c)):=QQ ⟨(Bx.new w _ _).alloc _,by have:=Bx.new (w.alloc (.cells #[.int .i64 v,.int .u8 rev.toNat,.int .u8 fl.toNat,.slice A fs.length c] 41)) #[.int .i64 0,.int .i64 0] 34;rw[World.size_alloc] at this;exact this,((Below.refl _ _).alloc (Nat.le_refl _) _).alloc (by simp) _⟩;have ak:∀wx,Below w.heap.size w wx->Calls prog 157 #[.agg #[.int .i64 v,.int .u8 rev.toNat,.int .u8 fl.toNat,.slice A fs.length c]] wx λe w'=>e=.returned (.agg #[.int .i64 0,.int .i64 0])/\Below wx.heap.size wx w':=by
  intro wx hb;have:=Zlt v rev fl A c fs B0 wx (hr.below hb) hn hid;rw[aj] at this;exact this
 have W:∀wx,Below w.heap.size w wx->Calls prog 158 #[.agg #[.int .i64 v,.int .u8 rev.toNat,.int .u8 fl.toNat,.slice A fs.length c]] wx (ZeO wx (ZaS ⟨v.toNat,rev,fl,fs⟩)):=λwx hb=>Zr6 v rev fl A c fs B0 wx (hr.below hb) hn ai h2 V;unfold ZeO at W;have aZ:(ZaS ⟨v.toNat,rev,fl,fs⟩).length<=260000000:=by omega
 have aF:=λw=>ZfJ (ZaS ⟨v.toNat,rev,fl,fs⟩).length (by omega) w;have aY:=Zj (ZaS ⟨v.toNat,rev,fl,fs⟩);have aK:=λw=>Zlu v rev fl w;have aO:=λw=>ZG 0 0 rfl w;have aB:=QQ ah;clear hr hid aj ai h2 V aM ah af;generalize Zd3 ⟨v.toNat,rev,fl,fs⟩=PT at*;generalize ZaS ⟨v.toNat,rev,fl,fs⟩=N at*;have aX:(Zaq N.length).length=4:=rfl;generalize Zaq N.length=sz at*;generalize ZbZ v.toNat fl=X at*;have aE:0<=v/\v<=4:=by omega
 have aL:∀w,Calls prog 34 #[.int .u64 v,.int .i64 1] w λe w'=>e=.returned (.string (B [UInt8.ofNat v.toNat]))/\Below w.heap.size w w':=by
  intro w;have:=ZeP v.toNat 1 (by omega) (by omega) (by omega) w;rw[Int.toNat_of_nonneg aE.1] at this;have e:Zas v.toNat 1=[UInt8.ofNat v.toNat]:=by
   simp only[Zas,Nat.pow_zero,Nat.div_one];rw[Nat.mod_eq_of_lt (by omega)]
  rw[e] at this;exact this
 generalize UInt8.ofNat v.toNat=j at*;have aI:∀w:World,Calls prog 35 #[.slice (some ⟨w.heap.size,0,none⟩) 4 4] (w.alloc (.cells #[.string (B [j]),.string (B [rev]),.string (B [fl]),.string (B sz)] 9)) λe w'=>e=.returned (.string (B ([j,rev,fl]++sz)))/\Below (w.alloc (.cells #[.string (B [j]),.string (B [rev]),.string (B [fl]),.string (B sz)] 9)).heap.size (w.alloc (.cells #[.string (B [j]),.string (B [rev]),.string (B [fl]),.string (B sz)] 9)) w':=λw=>by
  have:=Zik [[j],[rev],[fl],sz] (by simp) (by simp;omega) (by simp) w;have e:([[j],[rev],[fl],sz]:List (List UInt8)).flatten=[j,rev,fl]++sz:=by simp
  rw[e] at this;exact this
 have a9:=rev.toNat_lt;have a8:=fl.toNat_lt;have aV:IntKind.u64.wrap v=v:=by rw[IntKind.wrap_u64];omega
 have aU:IntKind.u64.wrap (rev.toNat:Int)=rev.toNat:=by rw[IntKind.wrap_u64];omega
 have aT:IntKind.u64.wrap (fl.toNat:Int)=fl.toNat:=by rw[IntKind.wrap_u64];omega
 obtain⟨⟨L,J,c2,I⟩,⟨y,u⟩,q,D,C⟩:=ad.cells;go_enter func94,ntmps94
 go_upto_region 8 with(first
  |(go_at_call 157;refine MR (ak _ ad.low) λw1 aq=>?_;have aQ:=QQ (ad.below aq);clear aq)
  |(go_at_call 8;refine MR (aO _) λw2 U=>?_;first|(have ac:=QQ ((aQ.alloc (.cells #[.int .i64 0,.int .i64 0] 34)).below U);clear U L J c2 I y u q D C;obtain⟨⟨L,J,c2,I⟩,⟨y,u⟩,q,D,C⟩:=ac.cells)|(have ax:=QQ ((aP.alloc (.cells #[.int .i64 0,.int .i64 0] 34)).below U);clear U L J c2 I y u q D C;obtain⟨⟨L,J,c2,I⟩,⟨y,u⟩,q,D,C⟩:=ax.cells))
  |(go_at_call 158;refine MR (W _ ac.low) λw3 ap=>?_;have aP:=QQ (ac.below ap);clear ap)
  |(go_at_call 159;refine MR (aF _) λw5 ao=>?_;have ab:=QQ (ax.below ao);clear ao L J c2 I y u q D C;obtain⟨⟨L,J,c2,I⟩,⟨y,u⟩,q,D,C⟩:=ab.cells))
 go_cut [9] (λs9 wx=>s9=.string (B ([j,rev,fl]++sz))/\CSt w wx v rev fl (.slice A fs.length c))
 case first=>
  go_region_held3 (λw'=>w'.cell? ⟨w.heap.size,0,none⟩=some (.int .i64 v)/\w'.cell? ⟨w.heap.size,1,none⟩=some (.int .u8 rev.toNat)/\w'.cell? ⟨w.heap.size,2,none⟩=some (.int .u8 fl.toNat))
   (first|with_reducible exact(CSt.keep3 (ab.out.below (ZbD (Below.refl _ _))))|with_reducible exact CSt.keep3 aA.out|with_reducible exact CSt.keep3 az.out|with_reducible exact CSt.keep3 ae.out|with_reducible exact CSt.keep3 (ae.out.alloc _)|with_reducible exact CSt.keep3 ay.out)
   (first
    |(go_at_call 34;(first|((with_reducible refine(aL _).mono ?_);rintro e wb ⟨rfl,O⟩)|((with_reducible refine(ZdD _ _).mono ?_);rintro e wb ⟨rfl,O⟩));first|(have aA:=QQ ((ab.out.below (ZbD (Below.refl _ _))).below O))|(have az:=QQ (aA.out.below O))|(have ae:=QQ (az.out.below O)))
    |(go_at_call 35;refine MR (aI _) λwj aN=>?_;have ay:=QQ ((ae.alloc _).below aN)))
  all_goals
   go_wp2_with fail
   go_meet
   exact⟨rfl,ay.out⟩
 obtain⟨rfl,hcut⟩:=hcut;have aw:=QQ hcut;clear hcut L J c2 I y u q D C;obtain⟨⟨L,J,c2,I⟩,⟨y,u⟩,q,D,C⟩:=aw.cells
 go_upto_if 54 with(go_at_call 27;refine MR (aK _) λw7 Z=>?_;have OV:=QQ (OwS.below (show OwS w (wc.alloc (.cells #[.string ⟨#[73,68,51]⟩,.string (B ([j,rev,fl]++sz)),.string (B N)] 9)) (.slice (some ⟨wc.heap.size,0,none⟩) 3 3) [Zu,[j,rev,fl]++sz,N] from World.ownsRow_lit (base:=w.heap.size+2) (e:=9) (size:=1) wc #[.string ⟨#[73,68,51]⟩,.string (B ([j,rev,fl]++sz)),.string (B N)] 3 (by omega) (by decide) rfl) Z);have aa:=QQ ((aw.alloc _).below Z);clear Z L J c2 I y u q D C;obtain⟨⟨L,J,c2,I⟩,⟨y,u⟩,q,D,C⟩:=aa.cells)
 go_cut [10] (λaC wx=>CSt w wx v rev fl (.slice A fs.length c)/\OwS w wx aC ([Zu,[j,rev,fl]++sz,N]++if X then [ZaB,[j,rev,fl]++sz] else []))
 case first=>
  cases X with
  |true=>
   go_wp2_with (at_builtin;refine Zg4 rfl _ _ rfl (w.heap.size+2) (.slice (some ⟨wc.heap.size,0,none⟩) 3 3) [Zu,[j,rev,fl]++sz,N] rfl w7 ZaB ([j,rev,fl]++sz) OV.out (by omega) (by simp) rfl ?_;intro v6 w9 aS an aJ;have SX:=QQ (aa.low2 an);clear an aJ)
   go_meet
   exact⟨SX.out,aS.out⟩
  |false=>
   go_wp2_with fail
   go_meet
   exact⟨aa.out,OV.out⟩
 have au:=QQ hcut.1;have aR:=QQ hcut.2;obtain⟨_,A8,c8,aD,ba⟩:=ZaZ hcut.2;subst aD;have Y:([Zu,[j,rev,fl]++sz,N]++if X then [ZaB,[j,rev,fl]++sz] else []).flatten=PT:=by
  rw[aB.out];cases X<;>simp
 have aH:∀wx,wx=wc->Calls prog 35 #[.slice A8 ([Zu,[j,rev,fl]++sz,N]++if X then [ZaB,[j,rev,fl]++sz] else []).length c8] wx λe w'=>e=.returned (.string (B PT))/\Below wx.heap.size wx w':=by
  rintro wx rfl;have:=Zk8 aR.out (by rw[Y,aB.out];cases X<;>simp[Zu,ZaB]<;>omega) (by cases X<;>simp);rw[Y] at this;exact this
 clear hcut Y L J c2 I y u q D C;obtain⟨⟨L,J,c2,I⟩,⟨y,u⟩,q,D,C⟩:=au.cells;generalize ([Zu,[j,rev,fl]++sz,N]++if X then [ZaB,[j,rev,fl]++sz] else []).length=n8 at*;go_wp2_with (go_at_call 35;refine MR (aH _ rfl) λwz am=>?_;have SZ:=QQ (au.below am);clear am L J c2 I y u q D C;obtain⟨⟨L,J,c2,I⟩,⟨y,u⟩,q,D,C⟩:=SZ.cells)
 have F:=SZ.fin (.int .i64 0) (.int .i64 0);refine bodyPost_ret (Zap rfl _ _ (w.heap.size+1) _ _ _ _ _ rfl rfl F.1 underlying34 rfl (by kernel_rfl)) rfl ?_;rw[<-hP];exact⟨rfl,F.2⟩
def setRow_other(w:World)(g k:Nat)(cs:Array Value)(h:k≠g):(w.setRow g cs).heap[k]?=w.heap[k]?:=by
 unfold World.setRow;rw[Array.getElem?_modify,if_neg (λe=>h e.symm)]
def size_setRow(w:World)(g:Nat)(cs:Array Value):(w.setRow g cs).heap.size=w.heap.size:=by
 unfold World.setRow;simp
def Bx.row{w:World}{g:Nat}{j:Array Value}{T:TypeId}(h:Bx w g j T)(cs:Array Value):Bx (w.setRow g cs) g cs T:=setRow_heap w g j cs T (0,0) h
def Bx.rowO{w:World}{g k:Nat}{j:Array Value}{T:TypeId}(h:Bx w g j T)(q:g≠k)(cs:Array Value):Bx (w.setRow k cs) g j T:=(setRow_other w k g cs q).trans h
def Zg5{B g:Nat}{a w:World}(h:Below B a w)(q:B<=g)(cs:Array Value):Below B a (w.setRow g cs):=
 ⟨h.os,h.tape,h.output,by rw[size_setRow];exact h.size,λk j=>(setRow_other w g k cs (by omega)).trans (h.block k j)⟩
def ZsR{C:Nat}{w:World}(cs:Array Value):But C w.heap.size w (w.setRow C cs):=
 ⟨rfl,rfl,rfl,by rw[size_setRow];exact Nat.le_refl _,λk _ j=>setRow_other w C k cs j⟩
open Go
def ZaU:List UInt8->Option (List UInt8×List UInt8)
 |[]=>none
 |x::r=>if x=0 then some ([],r) else match ZaU r with|none=>none|some q=>some (x::q.1,q.2)
def Z4:List UInt8->Option (List UInt8×List UInt8)
 |x::y::r=>if x=0/\y=0 then some ([],r) else match Z4 r with|none=>none|some q=>some (x::y::q.1,q.2)
 |_=>none
def Ze1(w:Nat)(l:List UInt8):Option (List UInt8×List UInt8):=if w=1 then ZaU l else Z4 l
def InS.until(s:InS)(w:Nat):List UInt8×InS:=
 if s.e≠0 then([],s) else
 match Ze1 w (s.t.drop s.n) with
 |none=>([],s.short)
 |some q=>(q.1,{s with n:=s.n+q.1.length+w})
inductive Lt where|lang|fmt|mime|kind|desc|text|data
 deriving DecidableEq
structure Pt where
 l:Lt
 raw:Bool
 text:List UInt8
 set:Nat
def Zcd(enc:Nat):Nat:=if enc=1\/enc=2 then 2 else 1
def ZaN(j:List UInt8->Except (Nat×Nat) (List UInt8×Nat))(l:Lt)(b:List UInt8×InS)(k:Nat):Pt×InS:=
 match j b.1 with
 | .ok t=>(⟨l,false,t.1,t.2⟩,b.2)
 | .error e=>(⟨l,false,[],0⟩,b.2.fail e.1 (k+e.2))
def Z2(enc:Nat)(j:List UInt8->Except (Nat×Nat) (List UInt8×Nat))(s:InS):Lt->Pt×InS
 | .lang=>let t:=s.take 3;(⟨.lang,true,t.1,0⟩,t.2)
 | .fmt=>let t:=s.take 3;(⟨.fmt,true,t.1,0⟩,t.2)
 | .kind=>let t:=s.take 1;(⟨.kind,true,t.1,0⟩,t.2)
 | .mime=>let t:=s.until 1;(⟨.mime,true,t.1,0⟩,t.2)
 | .desc=>ZaN j .desc (s.until (Zcd enc)) s.at_
 | .text=>ZaN j .text s.rest s.at_
 | .data=>let t:=s.rest;(⟨.data,true,t.1,0⟩,t.2)
def Za0(enc:Nat)(j:List UInt8->Except (Nat×Nat) (List UInt8×Nat)):List Lt->InS->Except (Nat×Nat) (List Pt×InS)
 |[],s=>.ok ([],s)
 |l::r,s=>
  let p:=Z2 enc j s l
  if p.2.e≠0 then .error (p.2.e,p.2.a) else
  match Za0 enc j r p.2 with
  | .error e=>.error e
  | .ok q=>.ok (p.1::q.1,q.2)
def Zg(v:Nat)(id:List UInt8):List Lt:=
 if v=2 then
  if id=[84,88,88] then [.desc,.text]
  else if id=[67,79,77]\/id=[85,76,84] then [.lang,.desc,.text]
  else if id=[87,88,88] then [.desc,.data]
  else if id=[80,73,67] then [.fmt,.kind,.desc,.data]
  else if id.length=3/\id.head? =some 84 then [.text] else []
 else if v=3\/v=4 then
  if id=[84,88,88,88] then [.desc,.text]
  else if id=[67,79,77,77]\/id=[85,83,76,84] then [.lang,.desc,.text]
  else if id=[87,88,88,88] then [.desc,.data]
  else if id=[65,80,73,67] then [.mime,.kind,.desc,.data]
  else if id.length=4/\id.head? =some 84 then [.text] else []
 else []
def Zfj(v enc:Nat):Bool:=decide (enc<=1)||(v==4&&decide (enc<=3))
def ZbE(j:Nat->List UInt8->Except (Nat×Nat) (List UInt8×Nat))(v:Nat)(id body:List UInt8):Except (Nat×Nat) (List Pt):=
 if Zg v id=[] then .ok [⟨.data,true,body,0⟩] else
 let e:=(⟨body,0,0,0,0⟩:InS).big 1
 if e.2.e≠0 then .error (e.2.e,e.2.a) else
 if Zfj v e.1=false then .error (1,0) else
 match Za0 e.1 (j e.1) (Zg v id) e.2 with
 | .error x=>.error x
 | .ok q=>.ok q.1
def Zbe(v:Nat):Nat:=if v=4 then 3 else 1
