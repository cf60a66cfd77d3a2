/- Lemmas for a statement on the tops; conditions: as each says. -/
import Derived.Test.YtjilfbhkdjanhaaGreatDoorM35
set_option linter.all false
set_option maxRecDepth 100000
set_option maxHeartbeats 1000000
open Go.Proofs.Tryz
namespace Go.Proofs.YtjilfbhkdjanhaaGreatDoor
open Go Go.RowKit
def ZtM(t:List UInt8):(enU t).length<=4*t.length+2:=by
 unfold enU;rcases Zd9 t with⟨ps,h,e⟩|⟨n,h,e⟩
 ·rw[e];have j:ps.length<=(B t).size:=h.len;have q:=(Zfi false ps).2;rw[Zj] at j;show([255,254]++Zx false ps).length<=_
  simp only[List.length_append,List.length_cons,List.length_nil];omega
 ·rw[e];simp
def Zot(e n:Nat):∀(ls:List Lt) (ps:List Pi),(∀p∈ps,p.text.length<=n)->(prL e ls ps).length<=(4*n+4)*ps.length
 |[],[],_=>by simp[prL]
 |[],_::_,_=>by simp[prL]
 |_::_,[],_=>by simp[prL]
 |l::ls,p::ps,h=>by
  have u:=Zot e n ls ps λq j=>h q (List.mem_cons_of_mem _ j);have y:=h p (List.mem_cons_self ..);have D:(enP e p).length<=4*n+2:=by
   unfold enP enT;have:=ZtM p.text;split
   ·omega
   ·split<;>omega
  have C:(tlP e l).length<=2:=by
   unfold tlP Zcd;cases l<;>simp<;>split<;>omega
  rw[prL,List.length_append,List.length_append,List.length_cons,Nat.mul_succ];omega
def Zuy(v:Nat)(f:Fr):(ZD v f).length<=5+2*f.body.length:=by
 have:=ZeB f.body;have:=ZdQ f.body;simp only[ZD,List.length_append];split<;>split<;>split<;>simp[Zaq]<;>omega
def ZbB(w:World)(r:Option (Nat×UInt8×UInt8×List It×List UInt8))(e:Ending)(w':World):Prop:=Below w.heap.size w w'/\match r with
 |some (v,rev,fl,q,j)=>∃u,e=.returned (.tuple #[.agg (T67 0 v rev fl u j),.agg #[.int .i64 0,.int .i64 0]])/\Zac w.heap.size w' u q
 |none=>∃n a:Int,1<=n/\e=.returned (.tuple #[.agg (T67 0 0 0 0 (.slice none 0 0) []),.agg #[.int .i64 n,.int .i64 a]])
def Zen{w w':World}{p:Addr}(h:w'.heap[p.block]?=w.heap[p.block]?):w'.cell? p=w.cell? p:=by
 unfold World.cell?;rw[h]
def Zhm(n a:Int):(#[Value.int .i64 n,.int .i64 a]:Array Value).all (·.oneCell')=true:=by
 simp;exact⟨rfl,rfl⟩
def Zrf(aa:List UInt8)(hl:aa.length<=900000000)(kd aP:Int)(fb:Nat)(det:Bool)(v:Nat)(rev fl:UInt8)(fs:List Fr)(q:List UInt8)(y:List It)
 (hp:ZS aa=.ok (some ⟨v,rev,fl,fs⟩,q)\/(ZS aa=.ok (none,q)/\v=0/\rev=0/\fl=0/\fs=[]))
 (cJ:fs.length<=4096) (hb:∀f∈fs,f.id.length<=100000/\f.body.length<=100000)
 (aR:∀f∈fs,Zg v f.id≠[]->∀w,Grd w->Calls prog 79 #[.int .i64 v,.string (B f.id),.string (B f.body),.agg #[.int .i64 kd,.int .i64 fb,.bool det,.int .i64 aP]] w (Zeg (ZbE (wdF fb det) v f.id f.body) w))
 (bi:∀f∈fs,∀x,ZbE (wdF fb det) v f.id f.body=.error x->x.1≠0)
 (hi:y.length<=fs.length/\(∀(k:Nat) (f:Fr) (it:It),fs[k]?=some f->y[k]?=some it->Zcj (wdF fb det) v f=some it)/\∀f,fs[y.length]?=some f->Zcj (wdF fb det) v f=none) (w:World) (hG:Grd w):
 Calls prog 41 #[.string (B aa),.agg #[.int .i64 kd,.int .i64 fb,.bool det,.int .i64 aP]] w (ZbB w (if y.length=fs.length then some (v,rev,fl,y,q) else none)):=by
 have bh:∀wx,Calls prog 7 #[.string (B aa)] wx λe w'=>∃A c,e=.returned (.tuple #[.agg #[.int .i64 v,.int .u8 rev.toNat,.int .u8 fl.toNat,.slice A fs.length c],.string (B q),.agg #[.int .i64 0,.int .i64 0]])/\Zk frV wx.heap.size w' (.slice A fs.length c) fs/\Below wx.heap.size wx w':=by
  intro wx;refine(Zis aa hl wx).mono ?_;rintro e w' ⟨h1,h2⟩;rcases hp with hp|⟨hp,rfl,rfl,rfl,rfl⟩
  ·rw[hp] at h2;obtain⟨vl,rfl,h3⟩:=h2;obtain⟨A,c,hv,hc⟩:=h3.len;subst hv;exact⟨A,c,rfl,h3,h1⟩
  ·rw[hp] at h2;subst h2;exact⟨none,0,rfl,.inl ⟨rfl,rfl⟩,h1⟩
 have bo:=λw=>ZG 0 0 rfl w;have b8:Hid (∀vi w',y.length=fs.length->Zac w.heap.size w' vi y->Below w.heap.size w w'->ZbB w (if y.length=fs.length then some (v,rev,fl,y,q) else none) (.returned (.tuple #[.agg (T67 0 v rev fl vi q),.agg #[.int .i64 0,.int .i64 0]])) w'):=QQ λvi w' h1 h2 h3=>by rw[if_pos h1];exact⟨h3,vi,rfl,h2⟩
 have bA:Hid (∀(n a:Int) w',y.length≠fs.length->1<=n->Below w.heap.size w w'->ZbB w (if y.length=fs.length then some (v,rev,fl,y,q) else none) (.returned (.tuple #[.agg (T67 0 0 0 0 (.slice none 0 0) []),.agg #[.int .i64 n,.int .i64 a]])) w'):=QQ λn a w' h1 h2 h3=>by rw[if_neg h1];exact⟨h3,n,a,h2,rfl⟩
 generalize ZbB w (if y.length=fs.length then some (v,rev,fl,y,q) else none)=P at*;have G0:=QQ hG;have HI:=QQ hi;have HB:=QQ hb;have bC:=QQ aR;have b9:=QQ bi;have S0:=QQ (PgSt.new w #[.int .i64 kd,.int .i64 fb,.bool det,.int .i64 aP]);clear hp hi hb aR bi;go_enter func41,ntmps41
 go_upto_region 1 with fail
 generalize hW:(((w.alloc _).alloc _).alloc _)=W0;have S1:Hid (PgSt w W0 (w.heap.size+1+1) #[.int .i64 kd,.int .i64 fb,.bool det,.int .i64 aP]):=QQ (by rw[<-hW];exact S0.out);clear S0 hW;generalize w.heap.size+1+1=F at*;go_upto_region 4 with(first
  |(go_at_call 7;refine(bh _).mono ?_;clear bh;rintro e w1 ⟨A,c,rfl,hr,bp⟩;have S2:=QQ (S1.below bp);have R2:=QQ hr;clear hr bp S1)
  |(go_at_call 8;refine MR (bo _) λw2 a3=>?_;have S3:Hid (PhSt w w2 F w1.heap.size _ _):=QQ (PhSt.below ⟨(S2.below ((Below.refl _ _).alloc (Nat.le_refl _) _)).below ((Below.refl _ _).alloc (Nat.le_refl _) _),(Bx.new w1 #[.int .i64 v,.int .u8 rev.toNat,.int .u8 fl.toNat,.slice A fs.length c] _).alloc _⟩ a3);have R3:=QQ (((R2.below ((Below.refl _ _).alloc (Nat.le_refl _) _)).below ((Below.refl _ _).alloc (Nat.le_refl _) _)).below a3);clear a3 S2 R2;obtain⟨⟨o0,o1,o2,o3⟩,h0,h1,h2,h3⟩:=S3.cells))
 have aS:Hid (∀(k:Nat) (f:Fr),fs[k]?=some f->∃bk,A=some ⟨bk,0,none⟩/\bk<w2.heap.size/\∀j u,(fs.flatMap frV)[j]?=some u->w2.cell? ⟨bk,j,none⟩=some u):=QQ (by
  intro k f hk;rcases R3.out with⟨h0,_⟩|⟨bk,c',h0,h1,h2,h5,h3,h4⟩
  ·rw[h0] at hk;simp at hk
  ·simp only[Value.slice.injEq] at h1;exact⟨bk,h1.1,h3,h4⟩)
 clear R3;have cP:w1.heap.size<w2.heap.size:=S3.h.lt;generalize w1.heap.size=C1 at*;go_upto_region 5 with(first
  |(refine Zh0 rfl 72 _ rfl (T67 0 v rev fl (.slice none 0 0) q) (by kernel_rfl) ?_)
  |(refine ZxB rfl 72 _ _ rfl _ (T67 0 v rev fl (.slice none 0 0) q) rfl rfl (by kernel_rfl) rfl (Zbw _ _ _ _ _ _ rfl) λW0 bW hW=>?_;have S4:=QQ (S3.below hW);have B4:=QQ bW;have W4:=QQ hW;clear bW hW o0 o1 o2 o3 h0 h1 h2 h3;obtain⟨⟨o0,o1,o2,o3⟩,h0,h1,h2,h3⟩:=S4.cells))
 go_wp2_with fail
 go_loopw [32] (λi wr=>PgRel w2 v rev fl q y i wr) (λi _=>y.length - (intOf i).toNat)
 case atStart=>exact⟨0,[],.slice none 0 0,Nat.zero_le _,rfl,QQ rfl,W4.out,B4.out,⟨rfl,.inl ⟨rfl,rfl⟩⟩,λ_=>rfl,QQ (λx hx=>by simp at hx)⟩
 case round=>
  obtain⟨k,xs,vl,hk,rfl,aO,aG,a1,aF,aQ,aW⟩:=hrel;have L:=QQ aG;have BT:=QQ a1;have OW:=QQ aF;have NL:=QQ aQ;have Z:=QQ (S3.below aG);have cL:w2.heap.size+1<=wr.heap.size:=a1.lt;have cO:C1<wr.heap.size:=by omega
  have cF:w2.heap.size<wr.heap.size:=by omega
  have cE:w.heap.size<wr.heap.size:=Z.s.o.lt;have cg:=HI.1;obtain⟨_,A9,c9,bM,cK⟩:=ZaZ aF;have cD:xs.length<=4096:=by have:=congrArg List.length aO.out;simp at this;omega
  subst bM;clear aG a1 aF aQ o0 o1 o2 o3 h0 h1 h2 h3 W4 B4 S4;obtain⟨⟨o0,o1,o2,o3⟩,h0,h1,h2,h3⟩:=Z.cells;by_cases bP:k<y.length
  ·obtain⟨f,hf⟩:∃f,fs[k]?=some f:=⟨_,List.getElem?_eq_getElem (by omega)⟩
   obtain⟨it,aY⟩:∃it,y[k]?=some it:=⟨_,List.getElem?_eq_getElem bP⟩
   have hit:=HI.2.1 k f it hf aY;obtain⟨bk,hA,a2,aI⟩:=aS.out k f hf;obtain⟨y0,y1,y2,y3,y4,y5⟩:=Zk.at6 (w:=wr) (λj u hu=>(L.cell (p:=⟨bk,j,none⟩) a2).trans (aI j u hu)) hf;have U:=HB.out f (List.mem_of_getElem? hf);have ah:=bC.out f (List.mem_of_getElem? hf);have O:=λw=>ZeR v f U.1 w;have bn:bk<wr.heap.size:=by omega
   have bj:k<fs.length:=by omega
   have bz:=QQ aY;subst hA;clear hf aY aI;by_cases D:Zg v f.id=[]
   ·rw[decide_eq_true D,Bool.not_true] at O;have aZ:it=⟨f,[]⟩:=by
     unfold Zcj at hit;rw[if_pos D] at hit;exact(Option.some.inj hit).symm
    subst aZ;clear D hit U ah;go_upto_region 17 with(go_at_call 77;refine(O _).mono ?_;clear O;rintro e w3 ⟨rfl,X⟩;have R3:=QQ ((RdSt.new wr _ _).below X);clear X)
    obtain⟨⟨x0,x1,x2,x3,x4,x5⟩,⟨z0,z1,z2,z3,z4,z5,z6⟩,J,I⟩:=R3.cells;have B3:=QQ (BT.below R3.low);have b4:w3.cell? ⟨w2.heap.size,4,none⟩=some (.slice A9 xs.length c9):=by rw[B3.cell 4];rfl
    go_wp2_with (at_builtin;refine ZlQ rfl _ _ rfl (w2.heap.size+1) (.slice A9 xs.length c9) xs rfl w3 (⟨f,[]⟩,.slice none 0 0) _ rfl rfl (ZB OW.out R3.low) (by have:=R3.low.size;omega) (by omega) rfl ?_;intro v6 w6 aL C aH;obtain⟨A6,n6,c6,aU⟩:=Zfo aL.out;subst aU;have B6:Hid (Bx w6 w2.heap.size (T67 0 v rev fl (.slice A9 xs.length c9) q) 72):=QQ ((C.block _ (Nat.lt_succ_self _)).trans B3.out);have b6:w6.cell? ⟨w2.heap.size,4,none⟩=some (.slice A9 xs.length c9):=(by rw[B6.cell 4];rfl);have f6:=B6.free 4)
    have NX:=QQ (Zoi bz.out aO.out L.out BT.out OW.out NL.out aW.out R3.low (.inl ⟨rfl,rfl⟩) aL.out C aH);clear C aH b4 b6 f6;go_roundw
    case rel=>exact NX.out
    case measure=>simp[intOf];omega
   ·rw[decide_eq_false D,Bool.not_false] at O;have V:=λw=>Zdk (B f.id) f.st f.fm v w;have Y:=ah D;obtain⟨ps,aZ,aD,N⟩:∃ps,it=⟨{f with body:=[]},ps.map Zfm⟩/\ZbE (wdF fb det) v f.id f.body=.ok ps/\ZQ v f.fm=false:=by
     unfold Zcj at hit;rw[if_neg D] at hit;by_cases N:ZQ v f.fm=true
     ·rw[if_pos N] at hit;cases hit
     ·rw[if_neg N] at hit;cases hq:ZbE (wdF fb det) v f.id f.body with
      |error x=>rw[hq] at hit;cases hit
      |ok ps=>rw[hq] at hit;exact⟨ps,(Option.some.inj hit).symm,rfl,by simpa using N⟩
    rw[aD] at Y;rw[Int.toNat_natCast,N] at V;unfold Zeg at Y;subst aZ;clear D hit U aD N ah;go_upto_region 12 with(first
     |(go_at_call 77;refine(O _).mono ?_;clear O;rintro e w3 ⟨rfl,X⟩;have R3:=QQ ((RdSt.new wr _ _).below X);clear X;obtain⟨⟨x0,x1,x2,x3,x4,x5⟩,⟨z0,z1,z2,z3,z4,z5,z6⟩,J,I⟩:=R3.cells;obtain⟨_,h0,h1,h2,h3⟩:=(Z.below R3.low).cells)
     |(go_at_call 78;refine(V _).mono ?_;clear V;rintro e w4 ⟨rfl,af⟩;have R4:=QQ (R3.below af);clear af R3 x0 x1 x2 x3 x4 x5 z0 z1 z2 z3 z4 z5 z6 J I;obtain⟨⟨x0,x1,x2,x3,x4,x5⟩,⟨z0,z1,z2,z3,z4,z5,z6⟩,J,I⟩:=R4.cells;obtain⟨⟨o0,o1,o2,o3⟩,h0,h1,h2,h3⟩:=(Z.below R4.low).cells))
    have G4:=QQ ((G0.below Z.s.low).below R4.low);go_upto_region 15 with(first
     |(go_at_call 79;refine(Y _ G4.out).mono ?_;clear Y;rintro e w5 ⟨aJ,v5,rfl,aV⟩;obtain⟨A5,pn,c5,bN⟩:=Zv5 aV;subst bN;have R5:=QQ (R4.below aJ);have Q5:=QQ aV;clear aJ aV x0 x1 x2 x3 x4 x5 z0 z1 z2 z3 z4 z5 z6 J I)
     |(go_at_call 8;refine MR (bo _) λw6 C=>?_;have R6:=QQ ((R5.alloc _).below C);have Q6:=QQ ((Q5.below ((Below.refl _ _).alloc (Nat.le_refl _) _)).below C);clear C;obtain⟨⟨x0,x1,x2,x3,x4,x5⟩,⟨z0,z1,z2,z3,z4,z5,z6⟩,J,I⟩:=R6.cells))
    go_upto_region 17 with fail
    have R7:=QQ ((R6.put 4 (.string ⟨#[]⟩)).put 6 (.slice A5 pn c5));have Q7:Hid (Zk piL (w2.heap.size+1) ((w6.setCell ⟨wr.heap.size+1,4,none⟩ (.string ⟨#[]⟩)).setCell ⟨wr.heap.size+1,6,none⟩ (.slice A5 pn c5)) (.slice A5 pn c5) (ps.map Zfm)):=QQ ((Zv3 (Zk.set (Zk.set Q6.out (by have:=R4.it.lt;omega) 4 _) (by have:=R4.it.lt;omega) 6 _)).low (by have:=R4.it.lt;omega));clear Q6 R6 Q5 R5 x0 x1 x2 x3 x4 x5 z0 z1 z2 z3 z4 z5 z6 J I;generalize ((w6.setCell ⟨wr.heap.size+1,4,none⟩ (.string ⟨#[]⟩)).setCell ⟨wr.heap.size+1,6,none⟩ (.slice A5 pn c5))=w7 at*;obtain⟨⟨x0,x1,x2,x3,x4,x5⟩,⟨z0,z1,z2,z3,z4,z5,z6⟩,J,I⟩:=R7.cells;have B3:=QQ (BT.below R7.low);have b4:w7.cell? ⟨w2.heap.size,4,none⟩=some (.slice A9 xs.length c9):=by rw[B3.cell 4];rfl
    go_wp2_with (at_builtin;refine ZlQ rfl _ _ rfl (w2.heap.size+1) (.slice A9 xs.length c9) xs rfl w7 (⟨{f with body:=[]},ps.map Zfm⟩,.slice A5 pn c5) _ rfl rfl (ZB OW.out R7.low) (by have:=R7.low.size;omega) (by omega) rfl ?_;intro v8 w8 aL C aH;obtain⟨A6,n6,c6,aU⟩:=Zfo aL.out;subst aU;have B6:Hid (Bx w8 w2.heap.size (T67 0 v rev fl (.slice A9 xs.length c9) q) 72):=QQ ((C.block _ (Nat.lt_succ_self _)).trans B3.out);have b6:w8.cell? ⟨w2.heap.size,4,none⟩=some (.slice A9 xs.length c9):=(by rw[B6.cell 4];rfl);have f6:=B6.free 4)
    have NX:=QQ (Zoi bz.out aO.out L.out BT.out OW.out NL.out aW.out R7.low Q7.out aL.out C aH);clear C aH b4 b6 f6;go_roundw
    case rel=>exact NX.out
    case measure=>simp[intOf];omega
  ·have bQ:k=y.length:=by omega
   subst bQ;by_cases hfin:y.length=fs.length
   ·have bf:xs.map (·.1)=y:=by rw[aO.out,List.take_length]
    have bU:=Z.s.f.lt;have hF:=Z.s.hF;go_wp2_with (first
     |(refine wpList_load_row rfl 72 _ rfl w2.heap.size rfl 72 (T67 0 v rev fl (.slice A9 xs.length c9) q) (0,0) _ BT.out underlying72 rfl (by kernel_rfl) ?_)
     |(refine Zfy rfl 72 _ _ rfl (w.heap.size+1) (T67 0 0 0 0 (.slice none 0 0) []) (T67 0 v rev fl (.slice A9 xs.length c9) q) rfl rfl Z.s.z (by kernel_rfl) rfl (Zbw _ _ _ _ _ _ rfl) λW bW hW=>?_;have BW:=QQ bW;have HW:=QQ hW;have FW:=QQ (Z.s.f.but hW (by omega));have e0:=FW.cell 0;have e1:=FW.cell 1;have g0:=FW.free 0;have g1:=FW.free 1;clear bW hW))
    have FX:=Zal FW.out (.int .i64 0) (.int .i64 0);have TX:=(BW.set (k:=F) (by omega) 0 (.int .i64 0)).set (k:=F) (by omega) 1 (.int .i64 0);refine bodyPost_ret (ZeD rfl _ _ (w.heap.size+1) F _ _ _ _ _ _ _ _ rfl rfl TX FX underlying72 rfl (by kernel_rfl) underlying34 rfl (by kernel_rfl)) rfl (b8.out _ _ hfin ?_ ?_)
    ·have cN:F<w2.heap.size:=S3.s.f.lt;refine⟨xs,bf,?_,λx hx=>?_⟩
     ·exact((((Zk.of_own rfl OW.out NL.out).but HW.out (by omega)).set (g:=F) (by omega) 0 _).set (g:=F) (by omega) 1 _).low (by omega)
     ·exact((((aW.out x hx).but HW.out (by omega)).set (g:=F) (by omega) 0 _).set (g:=F) (by omega) 1 _).low (by omega)
    ·exact((Z.s.low.trans ((HW.mono Z.s.low.size).below (by omega))).setCell (p:=⟨F,0,none⟩) (by show w.heap.size<=F;omega) _).setCell (p:=⟨F,1,none⟩) (by show w.heap.size<=F;omega) _
   ·have bj:y.length<fs.length:=by omega
    obtain⟨f,hf⟩:∃f,fs[y.length]?=some f:=⟨_,List.getElem?_eq_getElem bj⟩
    have hit:=HI.2.2 f hf;obtain⟨bk,hA,a2,aI⟩:=aS.out y.length f hf;obtain⟨y0,y1,y2,y3,y4,y5⟩:=Zk.at6 (w:=wr) (λj u hu=>(L.cell (p:=⟨bk,j,none⟩) a2).trans (aI j u hu)) hf;have U:=HB.out f (List.mem_of_getElem? hf);have ah:=bC.out f (List.mem_of_getElem? hf);have aX:=b9.out f (List.mem_of_getElem? hf);have O:=λw=>ZeR v f U.1 w;have bn:bk<wr.heap.size:=by omega
    have bB:=QQ hfin;subst hA;clear hf aI;by_cases D:Zg v f.id=[]
    ·unfold Zcj at hit;rw[if_pos D] at hit;cases hit
    ·rw[decide_eq_false D,Bool.not_false] at O;have V:=λw=>Zdk (B f.id) f.st f.fm v w;have Y:=ah D;have bm:w.heap.size+1≠F:=by have:=Z.s.hF;omega
     have cC:=Z.s.z.lt;have bU:=Z.s.f.lt;have cM:=Z.s.hF;unfold Zcj at hit;rw[if_neg D] at hit;rw[Int.toNat_natCast] at V;by_cases N:ZQ v f.fm=true
     ·rw[N] at V;clear D hit U ah Y aX N;go_upto_region 11 with(first
       |(go_at_call 77;refine(O _).mono ?_;clear O;rintro e w3 ⟨rfl,X⟩;have R3:=QQ ((RdSt.new wr _ _).below X);clear X;obtain⟨⟨x0,x1,x2,x3,x4,x5⟩,⟨z0,z1,z2,z3,z4,z5,z6⟩,J,I⟩:=R3.cells;obtain⟨_,h0,h1,h2,h3⟩:=(Z.below R3.low).cells)
       |(go_at_call 78;refine(V _).mono ?_;clear V;rintro e w4 ⟨rfl,af⟩;have R4:=QQ (R3.below af);clear af R3 x0 x1 x2 x3 x4 x5 z0 z1 z2 z3 z4 z5 z6 J I))
      have L4:=R4.low;have S9:=QQ ((Z.below L4).s.below (below_drewN (Below.refl _ w4) 1));have X5:Hid (w4.drew.cell? ⟨wr.heap.size,5,none⟩=some (.int .i64 f.at_)):=QQ ((R4.fr.below (below_drewN (Below.refl _ w4) 1)).cell 5);refine Zh1 (λw'=>w'.cell? ⟨wr.heap.size,5,none⟩=some (.int .i64 f.at_)) (.one 0 true (.one 1 true (.one 2 true (.one 3 true (.one 4 false (.one 5 false .nil)))))) (by kernel_rfl) (by kernel_rfl) (by kernel_rfl) (Nat.le_of_ble_eq_true rfl) (λ_ _ d _ _ h=>by cases d<;>exact h) X5.out ?_;refine Zd0 rfl (by rfl) _ (λw' _=>Zg7 72 #[] rfl (T67 0 0 0 0 (.slice none 0 0) []) (by kernel_rfl) w') ?_
      try simp only[Act.put,List.setIfInBounds_toArray,List.set_cons_zero,List.set_cons_succ]
      iterate 3 (refine' Zd0 rfl (by rfl) _ (λw' bq=>_) _;rotate_left;(go_simp;try with_reducible rfl);try simp only[Act.put,List.setIfInBounds_toArray,List.set_cons_zero,List.set_cons_succ])
      refine ZhE (i:=4) (j:=5) rfl rfl (by rfl) (by rfl) 72 34 _ _ _ _ rfl rfl rfl rfl (w.heap.size+1) F (T67 0 0 0 0 (.slice none 0 0) []) _ #[.int .i64 3,.int .i64 f.at_] _ rfl rfl rfl rfl S9.z S9.f bm (by kernel_rfl) (by kernel_rfl) rfl rfl (Zbw _ _ _ _ _ _ rfl) (Zhm _ _) (λW hW=>?_) w.heap.size (by omega) (by omega) S9.low ?_
      ·exact(Zen (p:=⟨wr.heap.size,5,none⟩) (hW wr.heap.size (by omega) (by omega))).trans X5.out
      ·intro W bT bF hb;go_wp2_with fail
       refine bodyPost_ret (ZeD rfl _ _ (w.heap.size+1) F _ _ _ _ _ _ _ _ rfl rfl bT bF underlying72 rfl (by kernel_rfl) underlying34 rfl (by kernel_rfl)) rfl (bA.out _ _ _ bB.out (by decide) hb)
     ·rw[if_neg N] at hit;obtain⟨x,aD⟩:∃x,ZbE (wdF fb det) v f.id f.body=.error x:=by
       cases hq:ZbE (wdF fb det) v f.id f.body with
       |error x=>exact⟨x,rfl⟩
       |ok ps=>rw[hq] at hit;cases hit
      have bg:=aX x aD;rw[aD] at Y;rw[show ZQ v f.fm=false by simpa using N] at V;unfold Zeg at Y;have bS:=λwx=>ZV (x.1:Nat) (x.2:Nat) (by omega) wx;have b5:=QQ bg;clear D hit U ah aX N aD bg;go_upto_region 12 with(first
       |(go_at_call 77;refine(O _).mono ?_;clear O;rintro e w3 ⟨rfl,X⟩;have R3:=QQ ((RdSt.new wr _ _).below X);clear X;obtain⟨⟨x0,x1,x2,x3,x4,x5⟩,⟨z0,z1,z2,z3,z4,z5,z6⟩,J,I⟩:=R3.cells;obtain⟨_,h0,h1,h2,h3⟩:=(Z.below R3.low).cells)
       |(go_at_call 78;refine(V _).mono ?_;clear V;rintro e w4 ⟨rfl,af⟩;have R4:=QQ (R3.below af);clear af R3 x0 x1 x2 x3 x4 x5 z0 z1 z2 z3 z4 z5 z6 J I;obtain⟨⟨x0,x1,x2,x3,x4,x5⟩,⟨z0,z1,z2,z3,z4,z5,z6⟩,J,I⟩:=R4.cells;obtain⟨⟨o0,o1,o2,o3⟩,h0,h1,h2,h3⟩:=(Z.below R4.low).cells))
      have G4:=QQ ((G0.below Z.s.low).below R4.low);go_upto_region 14 with(first
       |(go_at_call 79;refine(Y _ G4.out).mono ?_;clear Y;rintro e w5 ⟨aJ,rfl⟩;have R5:=QQ (R4.below aJ);clear aJ x0 x1 x2 x3 x4 x5 z0 z1 z2 z3 z4 z5 z6 J I;have Y5:=QQ (Bx.new w5 #[.int .i64 (x.1:Nat),.int .i64 (x.2:Nat)] 34))
       |(go_at_call 8;refine MR (bS _) λw6 C=>?_;have R6:=QQ ((R5.alloc _).below C);have Y6:=QQ (Y5.below C);clear C))
      have L6:=R6.low;have cG:wr.heap.size<w5.heap.size:=R5.fr.lt;have S9:=QQ ((Z.below L6).s.below (below_drewN (Below.refl _ w6) 1));have X5:Hid (w6.drew.cell? ⟨wr.heap.size,5,none⟩=some (.int .i64 f.at_)/\w6.drew.cell? ⟨w5.heap.size,0,none⟩=some (.int .i64 (x.1:Nat))):=QQ ⟨(R6.fr.below (below_drewN (Below.refl _ w6) 1)).cell 5,(Y6.below (below_drewN (Below.refl _ w6) 1)).cell 0⟩;refine Zh1 (λw'=>w'.cell? ⟨wr.heap.size,5,none⟩=some (.int .i64 f.at_)/\w'.cell? ⟨w5.heap.size,0,none⟩=some (.int .i64 (x.1:Nat))) (.one 0 true (.one 1 true (.one 2 true (.one 3 true (.one 4 true (.one 5 true (.one 6 false (.one 7 false .nil)))))))) (by kernel_rfl) (by kernel_rfl) (by kernel_rfl) (Nat.le_of_ble_eq_true rfl) (λ_ _ d _ _ h=>by cases d<;>exact h) X5.out ?_;refine Zd0 rfl (by rfl) _ (λw' _=>Zg7 72 #[] rfl (T67 0 0 0 0 (.slice none 0 0) []) (by kernel_rfl) w') ?_
      try simp only[Act.put,List.setIfInBounds_toArray,List.set_cons_zero,List.set_cons_succ]
      iterate 5 (refine' Zd0 rfl (by rfl) _ (λw' bq=>_) _;rotate_left;(obtain⟨s0,s1⟩:=bq;go_simp;try with_reducible rfl);try simp only[Act.put,List.setIfInBounds_toArray,List.set_cons_zero,List.set_cons_succ])
      refine ZhE (i:=6) (j:=7) rfl rfl (by rfl) (by rfl) 72 34 _ _ _ _ rfl rfl rfl rfl (w.heap.size+1) F (T67 0 0 0 0 (.slice none 0 0) []) _ #[.int .i64 (x.1:Nat),.int .i64 f.at_] _ rfl rfl rfl rfl S9.z S9.f bm (by kernel_rfl) (by kernel_rfl) rfl rfl (Zbw _ _ _ _ _ _ rfl) (Zhm _ _) (λW hW=>?_) w.heap.size (by omega) (by omega) S9.low ?_
      ·exact⟨(Zen (p:=⟨wr.heap.size,5,none⟩) (hW wr.heap.size (by omega) (by omega))).trans X5.1,(Zen (p:=⟨w5.heap.size,0,none⟩) (hW w5.heap.size (by omega) (by omega))).trans X5.2⟩
      ·intro W bT bF hb;go_wp2_with fail
       refine bodyPost_ret (ZeD rfl _ _ (w.heap.size+1) F _ _ _ _ _ _ _ _ rfl rfl bT bF underlying72 rfl (by kernel_rfl) underlying34 rfl (by kernel_rfl)) rfl (bA.out _ _ _ bB.out ?_ hb);have:=b5.out;omega
def Zrg(q:List UInt8)(hl:q.length<=900000000)(V D fb:Int)(det:Bool)(x:Nat×Nat)(hp:ZS q=.error x)(w:World):
 Calls prog 41 #[.string (B q),.agg #[.int .i64 V,.int .i64 fb,.bool det,.int .i64 D]] w (ZbB w none):=by
 have I:∀wx,Calls prog 7 #[.string (B q)] wx λe w'=>e=.returned (.tuple #[.agg #[.int .i64 0,.int .u8 0,.int .u8 0,.slice none 0 0],.string ⟨#[]⟩,.agg #[.int .i64 x.1,.int .i64 x.2]])/\x.1≠0/\Below wx.heap.size wx w':=by
  intro wx;refine(Zis q hl wx).mono ?_;rintro e w' ⟨h1,N⟩;rw[hp] at N;exact⟨N.1,N.2,h1⟩
 have X:=λ(h:x.1≠0) wx=>ZV (x.1:Nat) (x.2:Nat) (by omega) wx;have ac:Hid (∀(n a:Int) w',1<=n->Below w.heap.size w w'->ZbB w none (.returned (.tuple #[.agg (T67 0 0 0 0 (.slice none 0 0) []),.agg #[.int .i64 n,.int .i64 a]])) w'):=QQ λn a w' N h3=>⟨h3,n,a,N,rfl⟩
 generalize ZbB w none=P at*;have S0:=QQ (PgSt.new w #[.int .i64 V,.int .i64 fb,.bool det,.int .i64 D]);clear hp;go_enter func41,ntmps41
 go_upto_region 1 with fail
 generalize L:(((w.alloc _).alloc _).alloc _)=W0;have S1:Hid (PgSt w W0 (w.heap.size+1+1) #[.int .i64 V,.int .i64 fb,.bool det,.int .i64 D]):=QQ (by rw[<-L];exact S0.out);clear S0 L;generalize w.heap.size+1+1=F at*;go_upto_region 3 with(first
  |(go_at_call 7;refine(I _).mono ?_;clear I;rintro e u ⟨rfl,y,J⟩;have S2:=QQ (S1.below J);have ab:=QQ y;have Y:=X y;clear J S1 y)
  |(go_at_call 8;refine MR (Y _) λO C=>?_;have S3:=QQ (((S2.below ((Below.refl _ _).alloc (Nat.le_refl _) _)).below ((Below.refl _ _).alloc (Nat.le_refl _) _)).below C);have Y3:=QQ (Bx.below (by have:=Bx.new (u.alloc (.cells #[.int .i64 0,.int .u8 0,.int .u8 0,.slice none 0 0] 41)) #[.int .i64 x.1,.int .i64 x.2] 34;rw[World.size_alloc] at this;exact this) C);clear C))
 have U:=QQ (S3.below (below_drewN (Below.refl _ O) 1));have Y9:=QQ (Y3.below (below_drewN (Below.refl _ O) 1));have ao:=U.hF;have an:=S3.f.lt;have ak:F<u.heap.size:=S2.f.lt;have X5:Hid (O.drew.cell? ⟨u.heap.size+1,0,none⟩=some (.int .i64 x.1)/\O.drew.cell? ⟨u.heap.size+1,1,none⟩=some (.int .i64 x.2)):=QQ ⟨Y9.cell 0,Y9.cell 1⟩;refine Zh1 (λw'=>w'.cell? ⟨u.heap.size+1,0,none⟩=some (.int .i64 x.1)/\w'.cell? ⟨u.heap.size+1,1,none⟩=some (.int .i64 x.2)) (.one 0 true (.one 1 true (.one 2 false (.one 3 false .nil)))) (by kernel_rfl) (by kernel_rfl) (by kernel_rfl) (Nat.le_of_ble_eq_true rfl) (λ_ _ d _ _ h=>by cases d<;>exact h) X5.out ?_;refine Zd0 rfl (by rfl) _ (λw' _=>Zg7 72 #[] rfl (T67 0 0 0 0 (.slice none 0 0) []) (by kernel_rfl) w') ?_
 try simp only[Act.put,List.setIfInBounds_toArray,List.set_cons_zero,List.set_cons_succ]
 iterate 1 (refine' Zd0 rfl (by rfl) _ (λw' Z=>_) _;rotate_left;(obtain⟨s0,s1⟩:=Z;go_simp;try with_reducible rfl);try simp only[Act.put,List.setIfInBounds_toArray,List.set_cons_zero,List.set_cons_succ])
 refine ZhE (i:=2) (j:=3) rfl rfl (by rfl) (by rfl) 72 34 _ _ _ _ rfl rfl rfl rfl (w.heap.size+1) F (T67 0 0 0 0 (.slice none 0 0) []) _ #[.int .i64 x.1,.int .i64 x.2] _ rfl rfl rfl rfl U.z U.f (by omega) (by kernel_rfl) (by kernel_rfl) rfl rfl (Zbw _ _ _ _ _ _ rfl) (Zhm _ _) (λW L=>?_) w.heap.size (by omega) (by omega) U.low ?_
 ·exact⟨(Zen (p:=⟨u.heap.size+1,0,none⟩) (L _ (show u.heap.size+1≠_ by omega) (show u.heap.size+1≠_ by omega))).trans X5.1,(Zen (p:=⟨u.heap.size+1,1,none⟩) (L _ (show u.heap.size+1≠_ by omega) (show u.heap.size+1≠_ by omega))).trans X5.2⟩
 ·intro W bT bF hb;go_wp2_with fail
  refine bodyPost_ret (ZeD rfl _ _ (w.heap.size+1) F _ _ _ _ _ _ _ _ rfl rfl bT bF underlying72 rfl (by kernel_rfl) underlying34 rfl (by kernel_rfl)) rfl (ac.out _ _ _ ?_ hb);have:=ab.out;omega
def ZkW(b:ByteArray)(fb q:Int)(det:Bool)(w:World)
 (hp:∀wx,Below w.heap.size w wx->Calls prog 41 #[.string b,.agg #[.int .i64 1,.int .i64 fb,.bool det,.int .i64 q]] wx (ZbB wx none)):
 Calls prog 15 #[.string b,.agg #[.int .i64 1,.int .i64 fb,.bool det,.int .i64 q]] w (ZbB w none):=by
 unfold ZbB at hp;have ae:=λ(n a:Int) (hn:1<=n) wx=>ZV n a (by omega) wx;have S0:=QQ (PgSt.new w #[.int .i64 1,.int .i64 fb,.bool det,.int .i64 q]);have an:Hid (∀(n a:Int) w',1<=n->Below w.heap.size w w'->ZbB w none (.returned (.tuple #[.agg (T67 0 0 0 0 (.slice none 0 0) []),.agg #[.int .i64 n,.int .i64 a]])) w'):=QQ λn a w' h2 h3=>⟨h3,n,a,h2,rfl⟩
 generalize ZbB w none=P at*;go_enter func15,ntmps15
 go_upto_region 1 with fail
 generalize V:(((w.alloc _).alloc _).alloc _)=W0;have y:Hid (PgSt w W0 (w.heap.size+1+1) _):=QQ (by rw[<-V];exact S0.out);clear S0 V;generalize w.heap.size+1+1=F at*;have L:=y.o.cell 0;have I:=y.o.cell 1;have D:=y.o.cell 2;have C:=y.o.cell 3;have hF:=y.hF;have S2:=y;clear y;clear I D C;go_upto_region 7 with fail
 go_upto_region 8 with(first
  |(refine Zh0 rfl 72 _ rfl (T67 0 0 0 0 (.slice none 0 0) []) (by kernel_rfl) ?_)
  |(refine Zfz rfl 72 _ _ rfl _ _ (T67 0 0 0 0 (.slice none 0 0) []) 34 rfl rfl (by kernel_rfl) rfl (Zbw _ _ _ _ _ _ rfl) λW3 b3 b4 b5=>?_;have S3:Hid (PpSt w W3 F _ _ _ _):=QQ ⟨S2.below b5,b3,b4,S2.f.lt⟩;clear b3 b4 b5;obtain⟨⟨L,I,D,C⟩,⟨e0,e1,g0,Y⟩,⟨f0,Z,h0,X⟩⟩:=S3.cells))
 generalize W0.heap.size=K at*;have u:=QQ (S3.put2 (.int .i64 5) (.int .i64 0));clear S3 S2 L I D C e0 e1 g0 Y f0 Z h0 X;generalize ((W3.setCell ⟨K+1,0,none⟩ (.int .i64 5)).setCell ⟨K+1,1,none⟩ (.int .i64 0))=W4 at*;have N:=hp W4 u.s.low;have aB:=u.t.lt;have aA:=u.e.lt;have aC:=u.lt;clear hp;obtain⟨⟨L,I,D,C⟩,⟨e0,e1,g0,Y⟩,⟨f0,Z,h0,X⟩⟩:=u.cells;go_upto_region 21 with(first
  |(go_at_call 41;refine N.mono ?_;clear N;rintro e w5 ⟨U,n,a,hn,rfl⟩;have S5:=QQ (u.below U);have HN:=QQ hn;have af:=ae n a hn;clear U hn u L I D C e0 e1 g0 Y f0 Z h0 X)
  |(refine Zfy rfl 72 _ _ rfl K (T67 0 0 0 0 (.slice none 0 0) []) (T67 0 0 0 0 (.slice none 0 0) []) rfl rfl S5.t (by kernel_rfl) rfl (Zbw _ _ _ _ _ _ rfl) λW6 b6 h6=>?_;have S6:=QQ (S5.butK h6 b6);clear b6 h6 S5;obtain⟨⟨L,I,D,C⟩,⟨e0,e1,g0,Y⟩,⟨f0,Z,h0,X⟩⟩:=S6.cells;have S7:=QQ (S6.put2 (.int .i64 n) (.int .i64 a)))
  |(go_at_call 8;refine MR (af _) λw8 O=>?_;have S8:=QQ (S7.below O);clear O))
 have J:=QQ (S8.below (below_drewN (Below.refl _ w8) 1));have aD:=J.s.hF;have X5:Hid (w8.drew.cell? ⟨K+1,0,none⟩=some (.int .i64 n)/\w8.drew.cell? ⟨K+1,1,none⟩=some (.int .i64 a)):=QQ ⟨J.e.cell 0,J.e.cell 1⟩;refine Zh1 (λw'=>w'.cell? ⟨K+1,0,none⟩=some (.int .i64 n)/\w'.cell? ⟨K+1,1,none⟩=some (.int .i64 a)) (.one 0 true (.one 1 true (.one 2 false (.one 3 false .nil)))) (by kernel_rfl) (by kernel_rfl) (by kernel_rfl) (Nat.le_of_ble_eq_true rfl) (λ_ _ d _ _ h=>by cases d<;>exact h) X5.out ?_;refine Zd0 rfl (by rfl) _ (λw' _=>Zg7 72 #[] rfl (T67 0 0 0 0 (.slice none 0 0) []) (by kernel_rfl) w') ?_
 try simp only[Act.put,List.setIfInBounds_toArray,List.set_cons_zero,List.set_cons_succ]
 iterate 1 (refine' Zd0 rfl (by rfl) _ (λw' ah=>_) _;rotate_left;(obtain⟨s0,s1⟩:=ah;go_simp;try with_reducible rfl);try simp only[Act.put,List.setIfInBounds_toArray,List.set_cons_zero,List.set_cons_succ])
 refine ZhE (i:=2) (j:=3) rfl rfl (by rfl) (by rfl) 72 34 _ _ _ _ rfl rfl rfl rfl (w.heap.size+1) F (T67 0 0 0 0 (.slice none 0 0) []) _ #[.int .i64 n,.int .i64 a] _ rfl rfl rfl rfl J.s.z J.s.f (by omega) (by kernel_rfl) (by kernel_rfl) rfl rfl (Zbw _ _ _ _ _ _ rfl) (Zhm _ _) (λW V=>?_) w.heap.size (by omega) (by omega) J.s.low ?_
 ·exact⟨(Zen (p:=⟨K+1,0,none⟩) (V _ (show K+1≠_ by omega) (show K+1≠_ by omega))).trans X5.1,(Zen (p:=⟨K+1,1,none⟩) (V _ (show K+1≠_ by omega) (show K+1≠_ by omega))).trans X5.2⟩
 ·intro W bT bF hb;go_wp2_with fail
  exact bodyPost_ret (ZeD rfl _ _ (w.heap.size+1) F _ _ _ _ _ _ _ _ rfl rfl bT bF underlying72 rfl (by kernel_rfl) underlying34 rfl (by kernel_rfl)) rfl (an.out _ _ _ HN.out hb)
def Zk6(b:ByteArray)(an:b.size<=268435456)(q fb:Int)(det:Bool)(hr:Zdf q fb 0=true)(w:World)
 (Y:∀wx,Below w.heap.size w wx->Calls prog 15 #[.string b,.agg #[.int .i64 q,.int .i64 fb,.bool det,.int .i64 0]] wx (ZbB wx none)):
 Calls prog 6 #[.string b,.agg #[.int .i64 q,.int .i64 fb,.bool det,.int .i64 0]] w (ZN w none):=by
 have u:=λw=>ZgV q fb 0 det w;rw[hr] at u;unfold ZbB at Y;have Z:=λ(n a:Int) (hn:1<=n) wx=>ZV n a (by omega) wx;have HP:Hid (∀(n a:Int) w',1<=n->Below w.heap.size w w'->ZN w none (.returned (.tuple #[.string ⟨#[]⟩,.agg #[.int .i64 n,.int .i64 a]])) w'):=QQ λn a w' h1 h2=>⟨h2,n,a,rfl,h1⟩
 generalize ZN w none=P at*;clear hr;have S0:Hid (NoSt w ((w.alloc (.cells #[.int .i64 q,.int .i64 fb,.bool det,.int .i64 0] 25)).alloc (.cells #[.int .i64 0,.int .i64 0] 34)) q fb det):=QQ ⟨(Bx.new w _ _).alloc _,by have:=Bx.new (w.alloc (.cells #[.int .i64 q,.int .i64 fb,.bool det,.int .i64 0] 25)) #[.int .i64 0,.int .i64 0] 34;rw[World.size_alloc] at this;exact this,((Below.refl _ _).alloc (Nat.le_refl _) _).alloc (by simp) _⟩;go_enter func6,ntmps6
 go_upto_region 7 with(first
  |(go_at_call 5;refine(u _).mono ?_;clear u;rintro e w1 ⟨rfl,I⟩;have S1:=QQ (S0.below I);clear I;obtain⟨⟨W,V,c2,U⟩,L,J,O,N⟩:=S1.cells)
  |(go_at_call 15;refine(Y _ S1.low).mono ?_;clear Y;rintro e w2 ⟨D,n,a,hn,rfl⟩;have S2:=QQ (S1.below D);have HN:=QQ hn;have aa:=Z n a hn;clear D hn W V c2 U L J O N)
  |(refine Zfz rfl 72 _ _ rfl _ _ (T67 0 0 0 0 (.slice none 0 0) []) 34 rfl rfl (by kernel_rfl) rfl (Zbw _ _ _ _ _ _ rfl) λw3 C y j=>?_;have S3:Hid (NfSt w w2 w3 q fb det (T67 0 0 0 0 (.slice none 0 0) []) _ _):=QQ ⟨S2.below j,C,y,j,by have:=S2.f.lt;omega⟩;clear C y j;obtain⟨⟨⟨W,V,c2,U⟩,L,J,O,N⟩,u0,u1,g0,g1⟩:=S3.cells;have S4:=QQ (S3.put (.int .i64 n) (.int .i64 a)))
  |(go_at_call 8;refine MR (aa _) λw5 j=>?_;have X:=QQ (S4.below j);clear j W V c2 U L J O N u0 u1 g0 g1 S3 S4;obtain⟨⟨⟨W,V,c2,U⟩,L,J,O,N⟩,u0,u1,g0,g1⟩:=X.cells))
 have rl:=X.s.f.lt;go_region
 go_wp2_with fail
 have z:=(Zal X.s.f (.int .i64 n) (.int .i64 a)).below (below_drewN (Below.refl _ _) 1);refine bodyPost_ret (Zap rfl _ _ (w.heap.size+1) _ _ _ _ _ rfl rfl z underlying34 rfl (by kernel_rfl)) rfl ?_;refine HP.out _ _ _ HN.out ?_;exact((X.s.low.setCell (p:=⟨w.heap.size+1,0,none⟩) (Nat.le_succ _) _).setCell (p:=⟨w.heap.size+1,1,none⟩) (Nat.le_succ _) _).drew
def ZqY(b:ByteArray)(aD:b.size<=268435456)(V fb:Int)(det:Bool)(hr:Zdf V fb 0=true)(R:Array Value->World->Prop)(hR:∀T w1 U,R T w1->Below w1.heap.size w1 U->R T U)(w:World)
 (hp:∀wx,Below w.heap.size w wx->Calls prog 15 #[.string b,.agg #[.int .i64 V,.int .i64 fb,.bool det,.int .i64 0]] wx λe w'=>∃T,e=.returned (.tuple #[.agg T,.agg #[.int .i64 0,.int .i64 0]])/\(T.size=25/\T.all (·.oneCell')=true)/\R T w'/\Below wx.heap.size wx w')
 (hq:∀T wx,T.size=25->R T wx->Calls prog 16 #[.agg T] wx (ZN wx none)):
 Calls prog 6 #[.string b,.agg #[.int .i64 V,.int .i64 fb,.bool det,.int .i64 0]] w (ZN w none):=by
 have W:=λw=>ZgV V fb 0 det w;rw[hr] at W;have ao:=λw=>ZG 0 0 rfl w;have an:=λ(n a:Int) (hn:1<=n) wx=>ZV n a (by omega) wx;have HP:Hid (∀(n a:Int) w',1<=n->Below w.heap.size w w'->ZN w none (.returned (.tuple #[.string ⟨#[]⟩,.agg #[.int .i64 n,.int .i64 a]])) w'):=QQ λn a w' h1 h2=>⟨h2,n,a,rfl,h1⟩
 unfold ZN at hq;simp only at hq;generalize ZN w none=P at*;clear hr;have S0:Hid (NoSt w ((w.alloc (.cells #[.int .i64 V,.int .i64 fb,.bool det,.int .i64 0] 25)).alloc (.cells #[.int .i64 0,.int .i64 0] 34)) V fb det):=QQ ⟨(Bx.new w _ _).alloc _,by have:=Bx.new (w.alloc (.cells #[.int .i64 V,.int .i64 fb,.bool det,.int .i64 0] 25)) #[.int .i64 0,.int .i64 0] 34;rw[World.size_alloc] at this;exact this,((Below.refl _ _).alloc (Nat.le_refl _) _).alloc (by simp) _⟩;go_enter func6,ntmps6
 go_upto_region 6 with(first
  |(go_at_call 5;refine(W _).mono ?_;clear W;rintro e w1 ⟨rfl,ad⟩;have S1:=QQ (S0.below ad);clear ad;obtain⟨⟨J,I,c2,D⟩,u,q,C,y⟩:=S1.cells)
  |(go_at_call 15;refine(hp _ S1.low).mono ?_;clear hp;rintro e U ⟨T,rfl,hT,ae,ac⟩;have S2:=QQ (S1.below ac);clear ac J I c2 D u q C y;have HT:=QQ hT;have HR:=QQ ae;clear hT ae)
  |(refine Zfz rfl 72 _ _ rfl _ _ T 34 rfl rfl (by rw[HT.1];kernel_rfl) (by rw[HT.1];rfl) HT.2 λw3 ab aa j=>?_;have S3:Hid (NfSt w U w3 V fb det T _ _):=QQ ⟨S2.below j,ab,aa,j,by have:=S2.f.lt;omega⟩;clear ab aa j;obtain⟨⟨⟨J,I,c2,D⟩,u,q,C,y⟩,N,L,g0,O⟩:=S3.cells))
 have S4:=QQ (S3.put (.int .i64 0) (.int .i64 0));clear S3 S2 S1 S0 J I c2 D u q C y N L g0 O;generalize (w3.setCell ⟨U.heap.size+1,0,none⟩ (.int .i64 0)).setCell ⟨U.heap.size+1,1,none⟩ (.int .i64 0)=w4 at*;obtain⟨⟨⟨J,I,c2,D⟩,u,q,C,y⟩,N,L,g0,O⟩:=S4.cells;go_upto_region 9 with(first
  |(go_at_call 8;refine MR (ao _) λw5 j=>?_;have S5:=QQ (S4.below j);clear j J I c2 D u q C y N L g0 O;obtain⟨⟨⟨J,I,c2,D⟩,u,q,C,y⟩,N,L,g0,O⟩:=S5.cells)
  |(refine wpList_load_row rfl 72 _ rfl U.heap.size rfl 72 T (0,0) _ S5.t underlying72 rfl (by rw[HT.1];kernel_rfl) ?_)
  |(go_at_call 16;refine(hq T _ HT.1 (hR _ _ _ HR.out S5.low)).mono ?_;clear hq;rintro e w6 ⟨Z,n,a,rfl,hn⟩;have S6:=QQ (S5.below Z);have HN:=QQ hn;have X:=an n a hn;clear Z hn J I c2 D u q C y N L g0 O;obtain⟨⟨⟨J,I,c2,D⟩,u,q,C,y⟩,N,L,g0,O⟩:=S6.cells))
 have S7:=QQ (S6.put (.int .i64 n) (.int .i64 a));clear S6 S5 S4 J I c2 D u q C y N L g0 O;generalize (w6.setCell ⟨U.heap.size+1,0,none⟩ (.int .i64 n)).setCell ⟨U.heap.size+1,1,none⟩ (.int .i64 a)=w7 at*;obtain⟨⟨⟨J,I,c2,D⟩,u,q,C,y⟩,N,L,g0,O⟩:=S7.cells;go_upto_region 10 with(go_at_call 8;refine MR (X _) λw8 Y=>?_;have S8:=QQ (S7.below Y);clear Y J I c2 D u q C y N L g0 O;obtain⟨⟨⟨J,I,c2,D⟩,u,q,C,y⟩,N,L,g0,O⟩:=S8.cells)
 have rl:=S8.s.f.lt;go_region
 go_wp2_with fail
 have z:=(Zal S8.s.f (.int .i64 n) (.int .i64 a)).below (below_drewN (Below.refl _ _) 1);refine bodyPost_ret (Zap rfl _ _ (w.heap.size+1) _ _ _ _ _ rfl rfl z underlying34 rfl (by kernel_rfl)) rfl ?_;refine HP.out _ _ _ HN.out ?_;exact((S8.s.low.setCell (p:=⟨w.heap.size+1,0,none⟩) (Nat.le_succ _) _).setCell (p:=⟨w.heap.size+1,1,none⟩) (Nat.le_succ _) _).drew
def tlN(t:Tl):Nat->List UInt8
 |0=>t.a
 |1=>t.b
 |2=>t.c
 |3=>t.d
 |_=>t.e
def rmN(tr:UInt8):Nat->Nat
 |3=>4
 |4=>ZcR tr
 |_=>30
def okN(t:Tl)(k:Nat):Bool:=decide (Lib.indexByte (tlN t k) 0<0)&&decide ((tlN t k).length<=rmN t.tr k)
def okT(t:Tl):Bool:=okN t 0&&(okN t 1&&(okN t 2&&(okN t 3&&okN t 4)))
def Zvc{t:Tl}(h:∀j,j<5->okN t j=true):okT t=true:=by
 unfold okT;rw[h 0 (by omega),h 1 (by omega),h 2 (by omega),h 3 (by omega),h 4 (by omega)];rfl
def Zjz{t:Tl}{k:Nat}(j:k<5)(h:okN t k=false):okT t=false:=by
 unfold okT
 match k,j with
 |0,_=>rw[h];rfl
 |1,_=>rw[h];simp
 |2,_=>rw[h];simp
 |3,_=>rw[h];simp
 |4,_=>rw[h];simp
def ZaE{t:Tl}(h:okT t=true){k:Nat}(q:k<5):okN t k=true:=by
 cases j:okN t k with
 |true=>rfl
 |false=>rw[Zjz q j] at h;cases h
def Zkh(t:Tl)(k:Nat)(j:k<5)(w:World):(Instr.index 90 (.agg (tlS t)) (.int .i64 k)).run prog w=.ok (.string (B (tlN t k))) w:=by
 obtain⟨info,u,q⟩:=Option.map_eq_some_iff.1 (show(prog.info? 9).map (·.size)=some 1 by kernel_rfl);have hs:(Go.sizeOf 9).run prog w=.ok 1 w:=by simp[Go.sizeOf,Ev.run_ti u,q]
 unfold tlS
 match k,j with
 |0,_=>simp[Instr.index,asIntOf,Ev.run_und underlying90,hs,part,tlN]
 |1,_=>simp[Instr.index,asIntOf,Ev.run_und underlying90,hs,part,tlN]
 |2,_=>simp[Instr.index,asIntOf,Ev.run_und underlying90,hs,part,tlN]
 |3,_=>simp[Instr.index,asIntOf,Ev.run_und underlying90,hs,part,tlN]
 |4,_=>simp[Instr.index,asIntOf,Ev.run_und underlying90,hs,part,tlN]
def ZoK{tr:UInt8}{w:World}{G:Nat}{T:TypeId}(h:Bx w G (rmA tr) T){k:Nat}(j:k<5):w.cell? ⟨G,k,none⟩=some (.int .i64 (rmN tr k:Nat)):=by
 rw[h.cell k]
 match k,j with
 |0,_=>rfl
 |1,_=>rfl
 |2,_=>rfl
 |3,_=>rfl
 |4,_=>rfl
def ZgY(t:Tl)(w:World)(e:Ending)(w':World):Prop:=Below w.heap.size w w'/\∃n a:Int,e=.returned (.agg #[.int .i64 n,.int .i64 a])/\if okT t then n=0/\a=0 else 1<=n
structure TcSt2 (w wx:World)(t:Tl)(G:Nat):Prop where
 r:Bx wx (w.heap.size+1) #[.int .i64 0,.int .i64 0] 34
 m:Bx wx G (rmA t.tr) 87
 low:Below w.heap.size w wx
def TcRel(w:World)(t:Tl)(G:Nat)(i:Value)(wx:World):Prop:=∃k:Nat,k<=5/\i=.int .i64 k/\Hid (TcSt2 w wx t G)/\∀j,j<k->okN t j=true
def Zsi(t:Tl)(W:∀k,(tlN t k).length<=9223372036854775807)(w:World):Calls prog 30 #[.agg (tlA t)] w (ZgY t w):=by
 have Z:Hid (∀(n a:Int) w',Below w.heap.size w w'->(if okT t then n=0/\a=0 else 1<=n)->ZgY t w (.returned (.agg #[.int .i64 n,.int .i64 a])) w'):=QQ λn a w' h1 h2=>⟨h1,n,a,rfl,h2⟩
 generalize ZgY t w=P at*;have B0:=QQ (((Below.refl _ w).alloc (Nat.le_refl _) (.cells (tlA t) 29)).alloc (by simp) (.cells #[.int .i64 0,.int .i64 0] 34));have q:=QQ ((Bx.new w (tlA t) 29).alloc (.cells #[.int .i64 0,.int .i64 0] 34));have U:=QQ (Bx.new (w.alloc (.cells (tlA t) 29)) #[.int .i64 0,.int .i64 0] 34);rw[World.size_alloc] at U;have u:=λw=>Zlx t w;have I:=λw=>Zlv t w;obtain⟨x0,x1,x2,x3,x4,x5,x6⟩:=(show _ from⟨q.cell 0,q.cell 1,q.cell 2,q.cell 3,q.cell 4,q.cell 5,q.cell 6⟩:(_/\_/\_/\_/\_/\_/\_))
 have H9:=QQ W;clear W;unfold tlA at q U B0 u;unfold rmA at u;unfold tlS at I;unfold tlA;have aD:=QQ (λk hk w=>Zkh t k hk w);go_enter func30,ntmps30
 go_upto_region 2 with(go_at_call 31;refine MR (u _) λO D=>?_;have X1:=QQ (q.below D);have R1:=QQ (U.below D);have B1:=QQ (B0.trans (D.mono B0.size));clear D)
 have Y:=QQ (Bx.new O (rmA t.tr) 87);have L:=QQ (X1.alloc (.cells (rmA t.tr) 87));have X:=QQ (R1.alloc (.cells (rmA t.tr) 87));have B2:=QQ (B1.alloc B1.size (.cells (rmA t.tr) 87));unfold rmA at Y L X B2;clear x0 x1 x2 x3 x4 x5 x6 q U B0 X1 R1 u;generalize (O.alloc (.cells #[.int .i64 30,.int .i64 30,.int .i64 30,.int .i64 4,.int .i64 (ZcR t.tr:Nat)] 87))=W2 at*;have hG:w.heap.size<=O.heap.size:=B1.size;generalize O.heap.size=G at*;have y0:=L.cell 0;have y1:=L.cell 1;have y2:=L.cell 2;have y3:=L.cell 3;have y4:=L.cell 4;go_wp2_with (go_at_call 32;refine MR (I _) λw3 C=>?_;have R3:=QQ (X.below C);have M3:=QQ (Y.below C);have B3:=QQ (B2.trans (C.mono B2.size));clear C)
 clear y0 y1 y2 y3 y4 L X Y B2 B1 I;go_loopw [11] (λi wx=>TcRel w t G i wx) (λi _=>5 - (intOf i).toNat)
 case atStart=>exact⟨0,by omega,rfl,QQ ⟨R3.out,M3.out,B3.out⟩,λj hj=>absurd hj (by omega)⟩
 case round=>
  obtain⟨k,hk,rfl,ST,N⟩:=hrel;clear R3 M3 B3;have r0:=ST.r.cell 0;have r1:=ST.r.cell 1;have rf:=ST.r.free;have rl:=ST.r.lt;by_cases y:k<5
  ·have mc:=ZoK ST.m y;have ml:=ST.m.lt;have aA:=Zj (tlN t k);have J:=λw=>Zak (tlN t k) w;have W:=H9.out k;go_wp2_with fail
   rename_i hK
   have:=Zkh t k y;unfold tlS at this;rw[this];refine hK _ _ ?_;clear hK this;by_cases hz:Lib.indexByte (tlN t k) 0<0
   ·by_cases hw:(tlN t k).length<=rmN t.tr k
    ·go_wp2_with (go_at_call 60;refine(J _).mono ?_;rintro e w4 ⟨rfl,rfl⟩)
     go_roundw
     case rel=>exact⟨k+1,by omega,by go_num,ST,λj hj=>by
      by_cases V:j<k
      ·exact N j V
      ·obtain rfl:j=k:=by omega
       unfold okN;rw[decide_eq_true hz,decide_eq_true hw];rfl⟩
     case measure=>simp[intOf];omega
    ·go_wp2_with (go_at_call 60;refine(J _).mono ?_;rintro e w4 ⟨rfl,rfl⟩)
     have z:=Zal ST.r (.int .i64 4) (.int .i64 k);refine bodyPost_ret (results_cell_row rfl _ _ (w.heap.size+1) _ _ _ _ rfl z underlying34 rfl (by kernel_rfl)) rfl (Z.out _ _ _ ?_ ?_)
     ·exact(ST.low.setCell (p:=⟨w.heap.size+1,0,none⟩) (Nat.le_succ _) _).setCell (p:=⟨w.heap.size+1,1,none⟩) (Nat.le_succ _) _
     ·rw[Zjz y (by unfold okN;rw[decide_eq_false hw,Bool.and_false]),if_neg (by decide)];decide
   ·have e0:decide (0<=Lib.indexByte (tlN t k) 0)=true:=decide_eq_true (by omega);go_wp2_with (go_at_call 60;refine(J _).mono ?_;rintro e w4 ⟨rfl,rfl⟩)
    have z:=Zal ST.r (.int .i64 5) (.int .i64 k);refine bodyPost_ret (results_cell_row rfl _ _ (w.heap.size+1) _ _ _ _ rfl z underlying34 rfl (by kernel_rfl)) rfl (Z.out _ _ _ ?_ ?_)
    ·exact(ST.low.setCell (p:=⟨w.heap.size+1,0,none⟩) (Nat.le_succ _) _).setCell (p:=⟨w.heap.size+1,1,none⟩) (Nat.le_succ _) _
    ·rw[Zjz y (by unfold okN;rw[decide_eq_false (by omega),Bool.false_and]),if_neg (by decide)];decide
  ·obtain rfl:k=5:=by omega
   go_wp2_with fail
   have z:=Zal ST.r (.int .i64 0) (.int .i64 0);refine bodyPost_ret (results_cell_row rfl _ _ (w.heap.size+1) _ _ _ _ rfl z underlying34 rfl (by kernel_rfl)) rfl (Z.out _ _ _ ?_ ?_)
   ·exact(ST.low.setCell (p:=⟨w.heap.size+1,0,none⟩) (Nat.le_succ _) _).setCell (p:=⟨w.heap.size+1,1,none⟩) (Nat.le_succ _) _
   ·rw[Zvc N,if_pos rfl];exact⟨rfl,rfl⟩
