/- Lemmas for a statement on the tops; conditions: as each says. -/
import Derived.Deep.Slices
import Derived.Deep.Fields
import Derived.ChangeSame
import Derived.Test.YtjilfbhkdjanhaaGreatDoorM31
set_option linter.all false
set_option maxRecDepth 100000
set_option maxHeartbeats 4000000
open Go.Proofs.Tryz
namespace Go.Proofs.YtjilfbhkdjanhaaGreatDoor
open Go Go.RowKit
def enU(t:List UInt8):List UInt8:=match ZcX t with
 | .inl ps=>[255,254]++Zx false ps
 | .inr _=>[]
def enT(enc:Nat)(t:List UInt8):List UInt8:=if enc=1 then enU t else t
def enP(enc:Nat)(p:Pi):List UInt8:=if p.raw then p.text else enT enc p.text
def tlP(enc:Nat):Lt->List UInt8
 | .mime=>[0]
 | .desc=>List.replicate (Zcd enc) 0
 |_=>[]
def prL(enc:Nat):List Lt->List Pi->List UInt8
 |l::ls,p::ps=>enP enc p++(tlP enc l++prL enc ls ps)
 |_,_=>[]
def ZtN(t:List UInt8)(q:t.length<=100000):(enU t).length<=1000000:=by
 unfold enU;rcases Zd9 t with⟨ps,h,e⟩|⟨n,h,e⟩
 ·rw[e];have j:ps.length<=(B t).size:=h.len;have u:=(Zfi false ps).2;rw[Zj] at j;show([255,254]++Zx false ps).length<=1000000
  simp only[List.length_append,List.length_cons,List.length_nil];omega
 ·rw[e];simp
def ZtL(enc:Nat)(p:Pi)(h:p.text.length<=100000):(enP enc p).length<=1000000:=by
 unfold enP enT;split
 ·omega
 ·split
  ·exact ZtN _ h
  ·omega
def ZqR(t:List UInt8)(q:t.length<=100000)(j:Zcr t=true)(w:World)(hG:Grd w):
 Calls prog 176 #[.string (B t)] w λe w'=>e=.returned (.tuple #[.string (B (enU t)),.agg #[.int .i64 0,.int .i64 0]])/\Below w.heap.size w w':=by
 unfold Zcr at j;unfold enU;rcases Zd9 t with⟨ps,h,e⟩|⟨n,h,e⟩
 ·rw[e];exact Zsy (B t) ps h (by rw[Zj];omega) w hG.tabs
 ·rw[e] at j;cases j
def Zl9:∀(ls:List Lt) (ps:List Pi) (i:Nat),ckL ls ps i=(0,0)->ls.length=ps.length/\∀k (C:k<ls.length) (y:k<ps.length),Zp ls[k] ps[k]=0
 |[],[],_,_=>⟨rfl,λk h=>by simp at h⟩
 |[],_::_,i,h=>by simp[ckL] at h
 |_::_,[],i,h=>by simp[ckL] at h
 |l::ls,p::ps,i,h=>by
  rw[ckL] at h;by_cases u:Zp l p=0
  ·rw[if_neg (by omega)] at h;obtain⟨C,y⟩:=Zl9 ls ps _ h;refine⟨by simp[C],λk q j=>?_⟩;cases k with
   |zero=>exact u
   |succ k=>exact y k (by simpa using q) (by simpa using j)
  ·rw[if_pos u] at h;simp only[Prod.mk.injEq] at h;omega
def ZxC{l:Lt}{p:Pi}(h:Zp l p=0):p.raw=true\/Zcr p.text=true:=by
 unfold Zp at h;cases q:p.raw with
 |true=>exact .inl rfl
 |false=>
  right
  rw[q] at h;cases j:Zcr p.text with
  |true=>rfl
  |false=>
   rw[j] at h;cases l<;>simp[Zao] at h
   split at h<;>omega
def Zov(enc:Nat):∀(ls:List Lt) (ps:List Pi) (k:Nat) (q:k<ls.length) (j:k<ps.length),prL enc (ls.take (k+1)) (ps.take (k+1))=prL enc (ls.take k) (ps.take k)++(enP enc ps[k]++tlP enc ls[k])
 |[],_,k,q,_=>by simp at q
 |_::_,[],k,_,j=>by simp at j
 |l::ls,p::ps,0,_,_=>by simp[prL]
 |l::ls,p::ps,k+1,q,j=>by
  have:=Zov enc ls ps k (by simpa using q) (by simpa using j);simp only[List.take_succ_cons,prL,this,List.getElem_cons_succ,List.append_assoc]
def Zou(enc:Nat):∀(ls:List Lt) (ps:List Pi),(∀p∈ps,p.text.length<=100000)->(prL enc ls ps).length<=1000002*ps.length
 |[],[],_=>by simp[prL]
 |[],_::_,_=>by simp[prL]
 |_::_,[],_=>by simp[prL]
 |l::ls,p::ps,h=>by
  have C:=Zou enc ls ps λq j=>h q (List.mem_cons_of_mem _ j);have y:=ZtL enc p (h p (List.mem_cons_self ..));have u:(tlP enc l).length<=2:=by
   unfold tlP;split
   ·simp
   ·unfold Zcd;rw[List.length_replicate];split<;>omega
   ·simp
  simp only[prL,List.length_append,List.length_cons];omega
def ZwZ(enc:Nat)(l:Lt)(h:ltB l=122):tlP enc l=[0]:=by cases l<;>first|rfl|(exact absurd h (by decide))
def ZwY(enc:Nat)(l:Lt)(h:ltB l=100):tlP enc l=List.replicate (Zcd enc) 0:=by cases l<;>first|rfl|(exact absurd h (by decide))
def tlP_no(enc:Nat)(l:Lt)(h:ltB l≠122)(j:ltB l≠100):tlP enc l=[]:=by cases l<;>first|rfl|(exact absurd rfl h)|(exact absurd rfl j)
def scV(enc:Nat):Array Value:=#[.pointer none,.int .u8 enc,.int .i64 0,.int .i64 0,.bool false,.int .i64 0]
structure PrSt (w wx:World)(S enc:Nat):Prop where
 res:Bx wx w.heap.size #[.int .i64 0,.int .i64 0] 34
 sc:Bx wx S (scV enc) 191
 hS:w.heap.size<S
 blw:Below w.heap.size w wx
section
variable {w wx wy:World} {S enc:Nat}
theorem PrSt.below(h:PrSt w wx S enc)(hb:Below wx.heap.size wx wy):PrSt w wy S enc:=⟨h.res.below hb,h.sc.below hb,h.hS,h.blw.trans (hb.mono h.blw.size)⟩
theorem PrSt.alloc(h:PrSt w wx S enc)(o:Obj):PrSt w (wx.alloc o) S enc:=h.below ((Below.refl _ _).alloc (Nat.le_refl _) _)
theorem PrSt.low{B:Nat}(h:PrSt w wx S enc)(hb:Below B wx wy)(hB:S<B):PrSt w wy S enc:=
 ⟨(hb.block _ (by have:=h.hS;omega)).trans h.res,(hb.block S hB).trans h.sc,h.hS,h.blw.trans (hb.mono (by have:=h.hS;omega))⟩
theorem PrSt.fin(h:PrSt w wx S enc)(x y:Value):Bx ((wx.setCell ⟨w.heap.size,0,none⟩ x).setCell ⟨w.heap.size,1,none⟩ y) w.heap.size #[x,y] 34/\Below w.heap.size w ((wx.setCell ⟨w.heap.size,0,none⟩ x).setCell ⟨w.heap.size,1,none⟩ y):=
 ⟨Zal h.res x y,(h.blw.setCell (p:=⟨w.heap.size,0,none⟩) (Nat.le_refl _) x).setCell (p:=⟨w.heap.size,1,none⟩) (Nat.le_refl _) y⟩
end
def Zb7(base:Nat)(w:World)(v:Value)(L:List (List UInt8)):Prop:=w.ownsRow base 9 1 v L.length (L.map sV)
def Zb7.below{base:Nat}{w w':World}{v:Value}{L:List (List UInt8)}(h:Zb7 base w v L)(hb:Below w.heap.size w w'):Zb7 base w' v L:=ZB h hb
def Zb7.len{base:Nat}{w:World}{v:Value}{L:List (List UInt8)}(h:Zb7 base w v L):∃A c,v=.slice A L.length c/\L.length<=c:=by
 unfold Zb7 at h;exact(ZaZ h).2
def Zb7.alloc{base:Nat}{w:World}{v:Value}{L:List (List UInt8)}(h:Zb7 base w v L)(o:Obj):Zb7 base (w.alloc o) v L:=h.below ((Below.refl _ _).alloc (Nat.le_refl _) _)
def PrRel(w:World)(S enc base:Nat)(ls:List Lt)(ps:List Pi)(vl i:Value)(wr:World):Prop:=
 ∃(k:Nat) (L:List (List UInt8)),k<=ls.length/\i=.int .i64 k/\Hid (PrSt w wr S enc)/\Hid (Zb7 base wr vl L)/\L≠[]/\L.length<=1+2*k/\Hid (L.flatten=UInt8.ofNat enc::prL enc (ls.take k) (ps.take k))/\base<=wr.heap.size
def ZeS(w:World)(j:List UInt8)(e:Ending)(w':World):Prop:=e=.returned (.tuple #[.string (B j),.agg #[.int .i64 0,.int .i64 0]])/\Below w.heap.size w w'
def ZkY(v:Nat)(id:List UInt8)(hid:id.length<=100000)(A:Option Addr)(c:Nat)(ps:List Pi)(w:World)(hr:RdN 4 piL w w.heap.size A ps)(aw:∀p∈ps,p.text.length<=100000)(hG:Grd w)(h0:Zg v id≠[])(ah:ZaT v id ps=(0,0)):
 Calls prog 111 #[.int .i64 v,.string (B id),.slice A ps.length c] w (ZeS w (UInt8.ofNat (Zbe v)::prL (Zbe v) (Zg v id) ps)):=by
 have bj:=λw=>ZfF v id hid w;have cg:(B (Zn (Zg v id))).toList.isEmpty=false:=ZeX (by unfold Zn;intro h;exact h0 (List.map_eq_nil_iff.1 h));have am:Zes (Zg v id)=Zg v id:=by unfold Zes;rw[if_neg h0]
 have aL:=Zl9 (Zg v id) ps 0 (by unfold ZaT at ah;rw[am] at ah;exact ah);have cv:(Zg v id).length<=8:=by unfold Zg;(repeat' split)<;>simp
 have ci:ps.length<=8:=by have:=aL.1;omega
 have an:∀wx,Below w.heap.size w wx->Calls prog 175 #[.int .i64 v,.string (B id),.slice A ps.length c] wx λe w'=>e=.returned (.agg #[.int .i64 0,.int .i64 0])/\Below wx.heap.size wx w':=λwx hb=>by
  have:=ZkX v id hid A c ps wx ((hr.below hb).more hb.size) (by omega) aw (hG.below hb);rw[ah] at this;exact this
 have N:Zbe v=if v=4 then 3 else 1:=rfl
 obtain⟨bP,aJ⟩:=aL;have ay:(Zn (Zg v id)).length=(Zg v id).length:=by unfold Zn;simp
 have aP:=λw=>ZG 0 0 rfl w;generalize hP:ZeS w _=P at*;have aZ:=QQ hr;have G0:=QQ hG;have a3:=QQ aw;have bF:=QQ aJ;have a4:=QQ an;clear hr hG aw aJ an ah am h0;generalize Zg v id=ls at*;generalize bR:Zbe v=enc at*;have aN:enc=3\/enc=1:=by rw[N];split<;>simp
 have ck:enc<=3:=by omega
 have bH:=QQ aN;have bG:=QQ N;clear aN N;go_enter func111,ntmps111
 go_upto_if 36 with(first
  |(go_at_call 175;refine MR (a4.out _ ((Below.refl _ _).alloc (Nat.le_refl _) _)) λw1 aD=>?_;have R1:=QQ ((Bx.new w _ _).below aD);have L1:=QQ (Ze aD);clear aD)
  |(go_at_call 8;refine MR (aP _) λw2 aC=>?_;have R2:=QQ ((R1.alloc _).below aC);have D:=QQ (L1.trans ((Ze aC).mono L1.size));clear aC)
  |(go_at_call 131;refine(bj _).mono ?_;rintro e W ⟨rfl,rfl⟩))
 have cd:=D.size;go_cut [10] (λbb wx=>∃S,bb=.pointer (some ⟨S,0,none⟩)/\PrSt w wx S enc)
 case first=>
  have N:=bG.out;have X2:=QQ (Bx.new w2 (scV 1) 191);have bN:=X2.lt;have x1:=X2.cell 1;have xf:=X2.free 1;unfold scV at X2 x1;have aK:=R2.lt;by_cases h4:v=4
  ·subst h4;rw[if_pos rfl] at N;subst N;go_wp2_with fail
   go_meet
   exact⟨_,rfl,R2.alloc _,Bx.new w2 _ _,aK,D.alloc (by omega) _⟩
  ·rw[if_neg h4] at N;subst N;have e4:((v:Int)==4)=false:=by rw[beq_eq_false_iff_ne];omega
   go_wp2_with fail
   go_meet
   exact⟨_,rfl,R2.alloc _,X2.out,aK,D.alloc (by omega) _⟩
 case rest=>
  obtain⟨S,rfl,ad⟩:=hcut;have S0:=QQ ad;have a1:=ad.sc.cell 1;have cr:=ad.sc.lt;have cq:=ad.hS;clear ad;have br:∀w,Calls prog 34 #[.int .u64 (enc:Nat),.int .i64 1] w λe w'=>e=.returned (.string (B [UInt8.ofNat enc]))/\Below w.heap.size w w':=λw=>by
   have:=ZeP enc 1 (by omega) (by omega) (by omega) w;have e:Zas enc 1=[UInt8.ofNat enc]:=by simp only[Zas,Nat.pow_zero,Nat.div_one];rw[Nat.mod_eq_of_lt (by omega)]
   rw[e] at this;exact this
  have bQ:IntKind.u64.wrap (enc:Int)=enc:=by rw[IntKind.wrap_u64];omega
  unfold scV at a1;go_wp2_with (go_at_call 34;refine MR (br _) λW aB=>?_;have S3:=QQ (S0.below aB);have cb:=aB.size;clear aB)
  have O0:Hid (Zb7 (W.heap.size) (W.alloc (.cells #[.string (B [UInt8.ofNat enc])] 9)) (.slice (some ⟨W.heap.size,0,none⟩) 1 1) [[UInt8.ofNat enc]]):=QQ (World.ownsRow_lit (base:=W.heap.size) (e:=9) (size:=1) W #[.string (B [UInt8.ofNat enc])] 1 (Nat.le_refl _) (by decide) rfl);clear a1;go_loopw [11,45] (λvl i wr=>PrRel w S enc W.heap.size ls ps vl i wr) (λ_ i _=>ls.length - (intOf i).toNat)
  case atStart=>exact⟨0,[[UInt8.ofNat enc]],Nat.zero_le _,rfl,QQ (S3.alloc _),O0,by simp,by simp,QQ (by cases ls<;>simp[prL]),by simp⟩
  case round=>
   obtain⟨k,L,hk,rfl,hS,hO,bt,cu,I,co⟩:=hrel;have aa:S<W.heap.size:=by omega
   have a1:=hS.sc.cell 1;unfold scV at a1;obtain⟨AA,cc,rfl,cm⟩:=hO.len;by_cases aj:k<ps.length
   ·have ae:k<ls.length:=by omega
    obtain⟨bk,rfl,cp,bh⟩:=((aZ.below hS.blw).more hS.blw.size).pc4 (List.getElem?_eq_getElem aj);obtain⟨q0,q1,q2,q3⟩:=bh;have be:=ZxC (bF.out k ae aj);have ax:=a3.out _ (List.getElem_mem aj);have ac:=Zov enc ls ps k ae aj;have bo:=ZaV (Zn ls) k (by rw[ay];exact ae);have aM:(Zn ls)[k]'(by rw[ay];exact ae)=ltB ls[k]:=by simp[Zn]
    rw[aM] at bo;have bm:k<(Zn ls).length:=by rw[ay];exact ae
    have q:=QQ ac;have U:=ZwZ enc ls[k];have J:=ZwY enc ls[k];have O:=tlP_no enc ls[k];generalize tlP enc ls[k]=tl at*;generalize ltB ls[k]=ch at*;generalize ps[k]=p at*;clear ac aM;have X1:Hid (Bx (wr.alloc (.cells #[.string p.nm,.bool p.raw,.string (B p.text),.int .i64 p.set] 182)) wr.heap.size #[.string p.nm,.bool p.raw,.string (B p.text),.int .i64 p.set] 182):=QQ (Bx.new wr _ _);have S1:=QQ (hS.alloc (.cells #[.string p.nm,.bool p.raw,.string (B p.text),.int .i64 p.set] 182));have O1:=QQ (hO.alloc (.cells #[.string p.nm,.bool p.raw,.string (B p.text),.int .i64 p.set] 182));have ce:W.heap.size+1<=(wr.alloc (.cells #[.string p.nm,.bool p.raw,.string (B p.text),.int .i64 p.set] 182)).heap.size:=by simp;omega
    have c2:=X1.cell 2;have cj:=X1.lt;go_upto_region 15 with fail
    generalize (wr.alloc (.cells #[.string p.nm,.bool p.raw,.string (B p.text),.int .i64 p.set] 182))=W1 at*;clear q0 q1 q2 q3 c2;go_cut [59] (λa9 wx=>a9=.bool (!p.raw&&decide (enc=1))/\wx=W1)
    case first=>
     have x1:=X1.cell 1;have a2:=S1.sc.cell 1;unfold scV at a2;cases j:p.raw with
     |true=>
      rw[j] at x1;go_wp2_with fail
      go_meet
      exact⟨by rw[j];rfl,rfl⟩
     |false=>
      rw[j] at x1;by_cases Y:enc=1
      ·have e1:((enc:Int)==1)=true:=by rw[Y];rfl
       go_wp2_with fail
       go_meet
       exact⟨by rw[decide_eq_true Y,j];rfl,rfl⟩
      ·have e1:((enc:Int)==1)=false:=by rw[beq_eq_false_iff_ne];omega
       go_wp2_with fail
       go_meet
       exact⟨by rw[decide_eq_false Y,j];rfl,rfl⟩
    case rest=>
     obtain⟨rfl,rfl⟩:=hcut
     go_upto_if 59 with fail
     go_cut [14] (λba wx=>ba=.string (B (enP enc p))/\PrSt w wx S enc/\Zb7 W.heap.size wx (.slice AA L.length cc) L/\W.heap.size<=wx.heap.size)
     case first=>
      have G1:=QQ (G0.below S1.blw);cases j:p.raw with
      |true=>
       rw[show(!true&&decide (enc=1))=false from rfl];have hE:enP enc p=p.text:=by unfold enP;rw[j];rfl
       have HE:=QQ hE;clear hE j;go_wp2_with fail
       go_meet
       exact⟨by rw[HE.out],S1.out,O1.out,by omega⟩
      |false=>
       have hu:=be.resolve_left (by rw[j];decide);by_cases Y:enc=1
       ·rw[show(!false&&decide (enc=1))=true by rw[decide_eq_true Y];rfl];have hE:enP enc p=enU p.text:=by unfold enP enT;rw[j,if_neg (by decide),if_pos Y]
        have bi:=λw hG=>ZqR p.text ax hu w hG;have HE:=QQ hE;clear hE j Y hu;go_wp2_with (first
         |(go_at_call 176;refine MR (bi _ G1.out) λw5 ak=>?_;have S5:=QQ (S1.below ak);have O5:=QQ (O1.below ak);have aI:=ak.size;clear ak)
         |(go_at_call 8;refine MR (aP _) λw6 V=>?_;have S6:=QQ ((S5.alloc _).below V);have O6:=QQ ((O5.alloc _).below V);have bd:=ZY V;clear V))
        go_meet
        exact⟨by rw[HE.out],S6.out,O6.out,by omega⟩
       ·rw[show(!false&&decide (enc=1))=false by rw[decide_eq_false Y];rfl];have hE:enP enc p=p.text:=by unfold enP enT;rw[j,if_neg (by decide),if_neg Y]
        have HE:=QQ hE;clear hE j Y hu;go_wp2_with fail
        go_meet
        exact⟨by rw[HE.out],S1.out,O1.out,by omega⟩
     case rest=>
      obtain⟨rfl,aQ,aR,aI⟩:=hcut;have S5:=QQ aQ;have O5:=QQ aR;clear aQ aR;generalize enP enc p=X at*;go_upto_region 21 with(at_builtin;refine Za5 rfl _ _ rfl W.heap.size (.slice AA L.length cc) L rfl wc X O5.out aI (by omega) rfl ?_;intro v6 w6 bJ V bq)
      have S6:=QQ (S5.low V aa);have O6:Hid (Zb7 W.heap.size w6 v6 (L++[X])):=bJ;have bd:=V.size;clear V bq;obtain⟨D,ai⟩:∃D,D=L++[X]:=⟨_,rfl⟩
      rw[<-ai] at O6;have bO:D.length<=2+2*k:=by rw[ai];simp;omega
      have aS:D≠[]:=by rw[ai];simp
      have ao:D.flatten=L.flatten++X:=by rw[ai];simp
      have ab:=QQ ao;clear ai ao;obtain⟨A6,c6,rfl,cn⟩:=O6.len;by_cases y:ch=122
      ·have aT:((ch.toNat:Int)==122)=true:=by rw[y];rfl
       have hF:Hid ((D++[[0]]).flatten=UInt8.ofNat enc::prL enc (ls.take (k+1)) (ps.take (k+1))):=QQ (by rw[q.out,U y,List.flatten_append,ab.out,I.out];simp);clear U J O q y I;go_wp2_with (at_builtin;refine Za5 rfl _ _ rfl W.heap.size (.slice A6 D.length c6) D rfl w6 [0] O6.out (by omega) (by omega) rfl ?_;intro v7 w7 bI u bp)
       have aH:=u.size;have S7:=QQ (S6.low u aa);clear u bp;go_roundw
       case rel=>exact⟨k+1,D++[[0]],by omega,by go_num,S7,bI,by simp,by simp;omega,hF,by omega⟩
       case measure=>simp[intOf];omega
      ·have aT:((ch.toNat:Int)==122)=false:=by
        rw[beq_eq_false_iff_ne];intro e;exact y (UInt8.toNat_inj.1 (by show ch.toNat=122;omega))
       by_cases C:ch=100
       ·have aU:((ch.toNat:Int)==100)=true:=by rw[C];rfl
        have b0:=S6.sc.six;obtain⟨b0,b1,b2,b3,b4,b5⟩:=b0;by_cases Y:enc=1
        ·have hF:Hid ((D++[[0,0]]).flatten=UInt8.ofNat enc::prL enc (ls.take (k+1)) (ps.take (k+1))):=QQ (by rw[q.out,J C,show Zcd enc=2 by unfold Zcd;rw[if_pos (.inl Y)],List.flatten_append,ab.out,I.out];simp[List.replicate]);have af:=λw=>ZkS (.pointer none) enc (.inl Y) (.int .i64 0) (.int .i64 0) (.bool false) (.int .i64 0) w;clear U J O q y I C Y;go_wp2_with (first
          |(go_at_call 177;refine MR (af _) λw7 u=>?_;have S7:=QQ (S6.below u);have O7:=QQ (O6.below u);have aH:=u.size;clear u)
          |(at_builtin;refine Za5 rfl _ _ rfl W.heap.size (.slice A6 D.length c6) D rfl w7 [0,0] O7.out (by omega) (by omega) rfl ?_;intro v8 w8 aG Z aA))
         have bc:=Z.size;have S8:=QQ (S7.low Z aa);clear Z aA b0 b1 b2 b3 b4 b5;go_roundw
         case rel=>exact⟨k+1,D++[[0,0]],by omega,by go_num,S8,aG,by simp,by simp;omega,hF,by omega⟩
         case measure=>simp[intOf];omega
        ·have h3:enc=3:=bH.resolve_right Y;have hF:Hid ((D++[[0]]).flatten=UInt8.ofNat enc::prL enc (ls.take (k+1)) (ps.take (k+1))):=QQ (by rw[q.out,J C,show Zcd enc=1 by unfold Zcd;rw[if_neg (by omega)],List.flatten_append,ab.out,I.out];simp[List.replicate]);have af:=λw=>ZkR (.pointer none) enc (by omega) (.int .i64 0) (.int .i64 0) (.bool false) (.int .i64 0) w;clear U J O q y I C Y h3;go_wp2_with (first
          |(go_at_call 177;refine MR (af _) λw7 u=>?_;have S7:=QQ (S6.below u);have O7:=QQ (O6.below u);have aH:=u.size;clear u)
          |(at_builtin;refine Za5 rfl _ _ rfl W.heap.size (.slice A6 D.length c6) D rfl w7 [0] O7.out (by omega) (by omega) rfl ?_;intro v8 w8 aG Z aA))
         have bc:=Z.size;have S8:=QQ (S7.low Z aa);clear Z aA b0 b1 b2 b3 b4 b5;go_roundw
         case rel=>exact⟨k+1,D++[[0]],by omega,by go_num,S8,aG,by simp,by simp;omega,hF,by omega⟩
         case measure=>simp[intOf];omega
       ·have aU:((ch.toNat:Int)==100)=false:=by
         rw[beq_eq_false_iff_ne];intro e;exact C (UInt8.toNat_inj.1 (by show ch.toNat=100;omega))
        have hF:Hid (D.flatten=UInt8.ofNat enc::prL enc (ls.take (k+1)) (ps.take (k+1))):=QQ (by rw[q.out,O y C,ab.out,I.out];simp);clear U J O q y I C;go_wp2_with fail
        go_roundw
        case rel=>exact⟨k+1,D,by omega,by go_num,S6,O6,aS,by omega,hF,by omega⟩
        case measure=>simp[intOf];omega
   ·have az:ls.take k=ls/\ps.take k=ps:=⟨List.take_of_length_le (by omega),List.take_of_length_le (by omega)⟩
    have hfin:=I.out;rw[az.1,az.2] at hfin;have ax:=Zou enc ls ps a3.out;have bn:∀wx,wx=wr->Calls prog 35 #[.slice AA L.length cc] wx λe w'=>e=.returned (.string (B (UInt8.ofNat enc::prL enc ls ps)))/\Below wx.heap.size wx w':=by
     rintro wx rfl;have h:=ZdM (l:=L) hO.out bt (by rw[hfin,List.length_cons];omega) (by omega);rw[hfin] at h;exact h
    have S1:=hS;clear I az hfin ax a1;generalize UInt8.ofNat enc::prL enc ls ps=cD at*;generalize L.length=n8 at*;go_wp2_with (go_at_call 35;refine MR (bn _ rfl) λwz aO=>?_;have SZ:=QQ (S1.below aO);clear aO;have r0:=SZ.res.cell 0;have r1:=SZ.res.cell 1;have rf:=SZ.res.free;have rl:=SZ.res.lt)
    have F:=SZ.fin (.int .i64 0) (.int .i64 0);refine bodyPost_ret (Zap rfl _ _ w.heap.size _ _ _ _ _ rfl rfl F.1 underlying34 rfl (by kernel_rfl)) rfl ?_;rw[<-hP];exact⟨rfl,F.2⟩
open Go
inductive Pl where
 |nil
 |one (i:Nat) (still:Bool) (r:Pl)
 |two (i j:Nat) (p q:Pl)
def Pl.depth:Pl->Nat
 | .nil=>0
 | .one _ _ r=>r.depth+1
 | .two _ _ p q=>max p.depth q.depth+1
def Zdb(ops:Array Oper):Pl->Array Bool->Bool
 | .nil,u=>(Region.ready .any ops u).isEmpty
 | .one i true r,u=>(Region.ready .any ops u).contains i&&Region.free .any ops u i&&Zdb ops r (u.setIfInBounds i true)
 | .one i false r,u=>(Region.ready .any ops u==[i])&&Zdb ops r (u.setIfInBounds i true)
 | .two i j p q,u=>(Region.ready .any ops u==[i,j])&&Zdb ops p (u.setIfInBounds i true)&&Zdb ops q (u.setIfInBounds j true)
section
variable {P:Program} {l:List Oper} {Q:Exit->Act->World->Prop} {S:World->Prop}
def ZeL(P:Program)(l:List Oper)(Q:Exit->Act->World->Prop)(S:World->Prop)(i:Nat)(R:Act->World->Prop)(a:Act)(w:World):Prop:=
 ∃o,ZbK l i=some o/\(if Region.wanted o (yielded l.toArray a.tmps)=true then o.wp P a w (λj w'=>S w'/\R j w') Q else R (a.put o.dst undef) w)
def ZcI(P:Program)(l:List Oper)(Q:Exit->Act->World->Prop)(S:World->Prop):Pl->Act->World->Prop
 | .nil,a,w=>Q .normal a w
 | .one i true r,a,w=>∃o v,ZbK l i=some o/\YieldsIf P l.toArray S o v a/\ZcI P l Q S r (a.put o.dst v) w
 | .one i false r,a,w=>ZeL P l Q S i (ZcI P l Q S r) a w
 | .two i j p q,a,w=>ZeL P l Q S i (ZcI P l Q S p) a w/\ZeL P l Q S j (ZcI P l Q S q) a w
theorem ZjA{i:Nat}{R y:Act->World->Prop}{a:Act}{w:World}(h:ZeL P l Q S i R a w)(hS:S w)(hR:∀a w,S w->R a w->y a w):
 ZeL P l Q S i y a w:=by
 obtain⟨o,C,j⟩:=h;refine⟨o,C,?_⟩;split
 ·rename_i q
  rw[if_pos q] at j;exact Oper.wp_mono (λD w' u=>⟨u.1,hR _ _ u.1 u.2⟩) j
 ·rename_i q
  rw[if_neg q] at j;exact hR _ _ hS j
theorem ZfT(I:Region.noSelect l.toArray=true)(U:∀c (a:Act) d v w,Q (.panic c) (a.put d v) w->Q (.panic c) a w):
 ∀(X:Pl) (y:Nat) (u:Array Bool) (a:Act) (w:World),Zdb l.toArray X u=true->X.depth<=y->S w->ZcI P l Q S X a w->wpAnyH P .any l.toArray Q S y u a w
 | .nil,y,u,a,w,C,_,_,h=>wpAnyH_done (by simpa[Zdb] using C) h y
 | .one i b r,0,u,a,w,C,N,hS,h=>by simp[Pl.depth] at N
 | .two i j p q,0,u,a,w,C,N,hS,h=>by simp[Pl.depth] at N
 | .one i true r,y+1,u,a,w,C,N,hS,h=>by
  obtain⟨o,v,L,Z,D⟩:=h;simp only[Zdb,Bool.and_eq_true] at C;obtain⟨⟨W,h2⟩,V⟩:=C;rw[Zey] at L;exact wpAnyH_take L I h2 W (λc a w=>U c a _ _ w) Z hS (ZfT I U r y _ _ w V (by simpa[Pl.depth] using N) hS D)
 | .one i false r,y+1,u,a,w,C,N,hS,h=>by
  simp only[Zdb,Bool.and_eq_true,beq_iff_eq] at C;obtain⟨W,V⟩:=C;refine wpAnyH_all W (by simp) λj Y=>?_;have O:j=i:=by simpa using Y
  subst O;obtain⟨o,L,D⟩:=ZjA h hS (λa w hS D=>ZfT I U r y _ a w V (by simpa[Pl.depth] using N) hS D);rw[Zey] at L;unfold wpOp;rw[L];simp only;split
  ·rename_i J
   rw[if_pos J] at D;exact .inl D
  ·rename_i J
   rw[if_neg J] at D;exact⟨hS,D⟩
 | .two i k p q,y+1,u,a,w,C,N,hS,h=>by
  simp only[Zdb,Bool.and_eq_true,beq_iff_eq] at C;obtain⟨⟨W,V⟩,h4⟩:=C;have hd:max p.depth q.depth<=y:=by simpa[Pl.depth] using N
  refine wpAnyH_all W (by simp) λj Y=>?_;have O:j=i\/j=k:=by simpa using Y
  rcases O with rfl|rfl
  ·obtain⟨o,L,D⟩:=ZjA h.1 hS (λa w hS D=>ZfT I U p y _ a w V (by omega) hS D);rw[Zey] at L;unfold wpOp;rw[L];simp only;split
   ·rename_i J
    rw[if_pos J] at D;exact .inl D
   ·rename_i J
    rw[if_neg J] at D;exact⟨hS,D⟩
  ·obtain⟨o,L,D⟩:=ZjA h.2 hS (λa w hS D=>ZfT I U q y _ a w h4 (by omega) hS D);rw[Zey] at L;unfold wpOp;rw[L];simp only;split
   ·rename_i J
    rw[if_pos J] at D;exact .inl D
   ·rename_i J
    rw[if_neg J] at D;exact⟨hS,D⟩
theorem Zh1{id:Nat}{a:Act}{w:World}(S:World->Prop)(u:Pl)(C:P.follows .mixedOrders=true)(j:Region.noSelect l.toArray=true)
 (y:Zdb l.toArray u (Array.replicate l.toArray.size false)=true) (q:u.depth<=l.toArray.size)
 (D:∀c (a:Act) d v w,Q (.panic c) (a.put d v) w->Q (.panic c) a w) (hS:S w.drew) (h:ZcI P l Q S u a w.drew):(Code.region id l.toArray true).wp P Q a w:=
 wp_region_held_drew C hS λhS=>ZfT j D u _ _ a w.drew y q hS h
theorem pl_nil{a:Act}{w:World}(h:Q .normal a w):ZcI P l Q S .nil a w:=h
theorem Zd0{i:Nat}{r:Pl}{o:Oper}{a:Act}{w:World}(u:ZbK l i=some o)(j:Region.wanted o (yielded l.toArray a.tmps)=true)(v:Value)(q:∀w,S w->(execOp a.eval o).run P w=.ok (.value v) w)(h:ZcI P l Q S r (a.put o.dst v) w):ZcI P l Q S (.one i true r) a w:=
 ⟨o,v,u,.inl ⟨j,q⟩,h⟩
theorem ZmG{i:Nat}{R:Act->World->Prop}{o:Oper}{a:Act}{w:World}(u:ZbK l i=some o)(j:Region.wanted o (yielded l.toArray a.tmps)=true)
 (h:∀K:Act->World->Prop,Shut (∀a w,S w->R a w->K a w)->o.wp P a w K Q):ZeL P l Q S i R a w:=
 ⟨o,u,by rw[if_pos j];exact h _ (λa w hS q=>⟨hS,q⟩)⟩
theorem Zom{i:Nat}{r:Pl}{a:Act}{w:World}(h:ZeL P l Q S i (ZcI P l Q S r) a w):ZcI P l Q S (.one i false r) a w:=h
end
open Go Go.RowKit
def Zg7{P:Program}{o:Oper}{a:Act}(t:TypeId)(j:Array (Nat×Operand))(q:o.op=.build t j)(v:Array Value)
 (u:P.built t (j.map λ(i,x)=>(i,a.eval x)).toList=some v) (w:World):(execOp a.eval o).run P w=.ok (.value (.agg v)) w:=by
 unfold execOp;simp only[q,Sem.run_bind,run_build w t _ v u,Result.andThen_ok];rfl
section
variable {P:Program} {l:List Oper} {Q:Exit->Act->World->Prop} {S:World->Prop}
theorem ZhE{i j:Nat}{o p:Oper}{a:Act}{w w0:World}(hi:ZbK l i=some o)(hj:ZbK l j=some p)(wi:Region.wanted o (yielded l.toArray a.tmps)=true)(wj:Region.wanted p (yielded l.toArray a.tmps)=true)
 (C D:TypeId) (N J O L:Operand) (ho:o.op=.store C N J) (hp:p.op=.store D O L) (dO:o.dst=none) (dP:p.dst=none)
 (g F:Nat) (T ZT q ZF:Array Value) (ab:a.eval N=.pointer (some ⟨g,0,none⟩)) (Z:a.eval J=.agg T) (ac:a.eval O=.pointer (some ⟨F,0,none⟩)) (aa:a.eval L=.agg q)
 (bT:Bx w g ZT C) (bF:Bx w F ZF D) (y:g≠F) (iT:(P.info? C).map (·.size)=some T.size) (iF:(P.info? D).map (·.size)=some q.size) (zT:ZT.size=T.size) (zF:ZF.size=q.size)
 (oT:T.all (·.oneCell')=true) (oF:q.all (·.oneCell')=true) (hS:∀W,(∀u,u≠g->u≠F->W.heap[u]?=w.heap[u]?)->S W) (B:Nat) (V:B<=g) (X:B<=F) (hw:Below B w0 w)
 (h:∀W,Bx W g T C->Bx W F q D->Below B w0 W->Q .normal a W):ZcI P l Q S (.one i false (.one j false .nil)) a w:=by
 have eo:a.put o.dst undef=a:=by rw[dO];rfl
 have ep:a.put p.dst undef=a:=by rw[dP];rfl
 refine Zom (ZmG hi wi (λKK U=>?_));refine wp_store_row C N J ho g T ab Z C ZT bT iT zT oT ?_;rw[eo];refine U.out _ _ (hS _ λu Y _=>setRow_other w g u T Y) (Zom (ZmG hj wj (λaF I=>?_)));refine wp_store_row D O L hp F q ac aa D ZF (bF.rowO (λe=>y e.symm) T) iF zF oF ?_;rw[ep];refine I.out _ _ (hS _ λu Y h2=>(setRow_other _ F u q h2).trans (setRow_other w g u T Y)) (pl_nil ?_);exact h _ ((bT.row T).rowO y q) ((bF.rowO (λe=>y e.symm) T).row q) (Zg5 (Zg5 hw V T) X q)
end
structure Tl where
 a:List UInt8
 b:List UInt8
 c:List UInt8
 d:List UInt8
 e:List UInt8
 tr:UInt8
 g:UInt8
def tlA(t:Tl):Array Value:=#[.string (B t.a),.string (B t.b),.string (B t.c),.string (B t.d),.string (B t.e),.int .u8 t.tr.toNat,.int .u8 t.g.toNat]
def tlS(t:Tl):Array Value:=#[.string (B t.a),.string (B t.b),.string (B t.c),.string (B t.d),.string (B t.e)]
def ZcR(tr:UInt8):Nat:=if tr=0 then 30 else 28
def rmA(tr:UInt8):Array Value:=#[.int .i64 30,.int .i64 30,.int .i64 30,.int .i64 4,.int .i64 (ZcR tr:Nat)]
def tgL:List UInt8:=[84,65,71]
def Zf(t:List UInt8):List UInt8:=if 0<=Lib.indexByte t 0 then t.take (Lib.indexByte t 0).toNat else t
def Zgw(l:List UInt8):List UInt8×List UInt8:=if l.length<128 then(l,[]) else if(l.drop (l.length - 128)).take 3=tgL then(l.take (l.length - 128),l.drop (l.length - 128)) else(l,[])
def Zlv(t:Tl)(w:World):Calls prog 32 #[.agg (tlS t)] w λe w'=>e=.returned (.agg (tlS t))/\Below w.heap.size w w':=by
 have z:=Bx.new (w.alloc (.cells (tlS t) 27)) (tlS t) 90;rw[World.size_alloc] at z;have B0:=QQ (((Below.refl _ w).alloc (Nat.le_refl _) (.cells (tlS t) 27)).alloc (by simp) (.cells (tlS t) 90));have Z:=QQ z;clear z;unfold tlS at*;go_enter func32,ntmps32
 go_wp2_with fail
 exact bodyPost_ret (results_cell_row rfl _ _ (w.heap.size+1) _ _ _ _ rfl Z.out underlying90 rfl (by kernel_rfl)) rfl ⟨rfl,B0.out⟩
def Zlz(w:World):Calls prog 37 #[] w λe w'=>e=.returned (.agg #[.int .i64 30,.int .i64 30,.int .i64 30,.int .i64 4,.int .i64 30])/\Below w.heap.size w w':=by
 have B0:=QQ ((Below.refl _ w).alloc (Nat.le_refl _) (.cells #[.int .i64 30,.int .i64 30,.int .i64 30,.int .i64 4,.int .i64 30] 87));have j:=QQ (Bx.new w #[.int .i64 30,.int .i64 30,.int .i64 30,.int .i64 4,.int .i64 30] 87);go_enter func37,ntmps37
 go_wp2_with fail
 exact bodyPost_ret (results_cell_row rfl _ _ w.heap.size _ _ _ _ rfl j.out underlying87 rfl (by kernel_rfl)) rfl ⟨rfl,B0.out⟩
def Zlx(t:Tl)(w:World):Calls prog 31 #[.agg (tlA t)] w λe w'=>e=.returned (.agg (rmA t.tr))/\Below w.heap.size w w':=by
 have B0:=QQ (((Below.refl _ w).alloc (Nat.le_refl _) (.cells (tlA t) 29)).alloc (by simp) (.cells #[.int .i64 0,.int .i64 0,.int .i64 0,.int .i64 0,.int .i64 0] 87));have D:=QQ ((Bx.new w (tlA t) 29).alloc (.cells #[.int .i64 0,.int .i64 0,.int .i64 0,.int .i64 0,.int .i64 0] 87));have y:=QQ (Bx.new (w.alloc (.cells (tlA t) 29)) #[.int .i64 0,.int .i64 0,.int .i64 0,.int .i64 0,.int .i64 0] 87);rw[World.size_alloc] at y;have C:=λw=>Zlz w;by_cases h0:t.tr=0
 ·have e0:((t.tr.toNat:Int) !=0)=false:=by rw[h0];rfl
  unfold rmA ZcR;rw[if_pos h0];unfold tlA at*;clear h0;go_enter func31,ntmps31
  go_wp2_with (go_at_call 37;refine MR (C _) λL q=>?_;have u:=QQ (D.below q);have j:=QQ (y.below q);have B1:=QQ (B0.trans (q.mono B0.size));clear q;have J:=u.cell 5;have I:=u.lt;have N:=j.lt;have V:=j.cell 0;have U:=j.cell 1;have r2:=j.cell 2;have O:=j.cell 3;have r4:=j.cell 4;have f0:=j.free 0;have Z:=j.free 1;have Y:=j.free 2;have X:=j.free 3;have W:=j.free 4)
  have z:=(((((j.put 0 (.int .i64 30)).put 1 (.int .i64 30)).put 2 (.int .i64 30)).put 3 (.int .i64 4)).put 4 (.int .i64 30)).alloc (.cells #[.int .i64 30,.int .i64 30,.int .i64 30,.int .i64 4,.int .i64 30] 87);simp only[List.setIfInBounds_toArray,List.set_cons_zero,List.set_cons_succ] at z;refine bodyPost_ret (results_cell_row rfl _ _ (w.heap.size+1) _ _ _ _ rfl z underlying87 rfl (by kernel_rfl)) rfl ⟨rfl,?_⟩;exact(((((B1.setCell (p:=⟨w.heap.size+1,0,none⟩) (Nat.le_succ _) _).setCell (p:=⟨w.heap.size+1,1,none⟩) (Nat.le_succ _) _).setCell (p:=⟨w.heap.size+1,2,none⟩) (Nat.le_succ _) _).setCell (p:=⟨w.heap.size+1,3,none⟩) (Nat.le_succ _) _).setCell (p:=⟨w.heap.size+1,4,none⟩) (Nat.le_succ _) _).alloc (by have:=B1.size;simp;omega) _
 ·have e0:((t.tr.toNat:Int) !=0)=true:=by rw[bne_iff_ne];intro e;exact h0 (UInt8.toNat_inj.1 (by show t.tr.toNat=0;omega))
  unfold rmA ZcR;rw[if_neg h0];unfold tlA at*;clear h0;go_enter func31,ntmps31
  go_wp2_with (go_at_call 37;refine MR (C _) λL q=>?_;have u:=QQ (D.below q);have j:=QQ (y.below q);have B1:=QQ (B0.trans (q.mono B0.size));clear q;have J:=u.cell 5;have I:=u.lt;have N:=j.lt;have V:=j.cell 0;have U:=j.cell 1;have r2:=j.cell 2;have O:=j.cell 3;have r4:=j.cell 4;have f0:=j.free 0;have Z:=j.free 1;have Y:=j.free 2;have X:=j.free 3;have W:=j.free 4)
  have z:=(((((j.put 0 (.int .i64 30)).put 1 (.int .i64 30)).put 2 (.int .i64 30)).put 3 (.int .i64 4)).put 4 (.int .i64 28)).alloc (.cells #[.int .i64 30,.int .i64 30,.int .i64 30,.int .i64 4,.int .i64 28] 87);simp only[List.setIfInBounds_toArray,List.set_cons_zero,List.set_cons_succ] at z;refine bodyPost_ret (results_cell_row rfl _ _ (w.heap.size+1) _ _ _ _ rfl z underlying87 rfl (by kernel_rfl)) rfl ⟨rfl,?_⟩;exact(((((B1.setCell (p:=⟨w.heap.size+1,0,none⟩) (Nat.le_succ _) _).setCell (p:=⟨w.heap.size+1,1,none⟩) (Nat.le_succ _) _).setCell (p:=⟨w.heap.size+1,2,none⟩) (Nat.le_succ _) _).setCell (p:=⟨w.heap.size+1,3,none⟩) (Nat.le_succ _) _).setCell (p:=⟨w.heap.size+1,4,none⟩) (Nat.le_succ _) _).alloc (by have:=B1.size;simp;omega) _
def Zne:∀l:List UInt8,Lib.indexByte l 0<l.length+1
 |[]=>by decide
 |x::r=>by
  have:=Zne r;simp only[Lib.indexByte];split
  ·simp;omega
  ·simp only[List.length_cons];split<;>omega
def ZeV(t:List UInt8)(D:t.length<=1000000000)(w:World):Calls prog 38 #[.string (B t)] w λe w'=>e=.returned (.string (B (Zf t)))/\w=w':=by
 have y:=Zj t;have j:=λw=>Zak t w;have q:Lib.indexByte t 0<=t.length:=by have:=Zne t;omega
 unfold Zf;by_cases h0:0<=Lib.indexByte t 0
 ·rw[if_pos h0];obtain⟨n,hn⟩:∃n:Nat,Lib.indexByte t 0=n:=⟨(Lib.indexByte t 0).toNat,by omega⟩
  rw[hn] at j q⊢;have he:(B t).extract 0 n=B (t.take n):=by rw[Zby];rfl
  have C:=QQ he;rw[Int.toNat_natCast];clear h0 hn he;go_enter func38,ntmps38
  go_wp2_with (go_at_call 60;refine(j _).mono ?_;rintro e u ⟨rfl,rfl⟩)
  go_ret
  exact⟨congrArg (λx=>Ending.returned (.string x)) C.out,rfl⟩
 ·rw[if_neg h0];generalize Lib.indexByte t 0=z at*;go_enter func38,ntmps38
  go_wp2_with (go_at_call 60;refine(j _).mono ?_;rintro e u ⟨rfl,rfl⟩)
  go_ret
  exact⟨rfl,rfl⟩
def pref3(l:List UInt8):Lib.hasPrefix l tgL=decide (l.take 3=tgL):=by
 match l with
 |[]=>rfl
 |[a]=>simp[Lib.hasPrefix,tgL,List.isPrefixOf]
 |[a,b]=>simp[Lib.hasPrefix,tgL,List.isPrefixOf]
 |a::b::c::r=>
  simp only[Lib.hasPrefix,tgL,List.isPrefixOf,List.take_succ_cons,List.take_zero,Bool.and_true];rw[Bool.eq_iff_iff];simp only[Bool.and_eq_true,beq_iff_eq,decide_eq_true_eq,List.cons.injEq,and_true];constructor<;>rintro⟨rfl,rfl,rfl⟩<;>exact⟨rfl,rfl,rfl⟩
def Zsd(l:List UInt8)(V:l.length<=1000000000)(w:World):Calls prog 10 #[.string (B l)] w λe w'=>e=.returned (.tuple #[.string (B (Zgw l).1),.string (B (Zgw l).2)])/\Below w.heap.size w w':=by
 have J:=Zj l;unfold Zgw;by_cases D:l.length<128
 ·rw[if_pos D];simp only;go_enter func10,ntmps10
  go_wp2_with fail
  go_ret2
  exact⟨rfl,Below.refl _ _⟩
 ·rw[if_neg D];obtain⟨n,hn⟩:∃n:Nat,l.length=n+128:=⟨l.length - 128,by omega⟩
  rw[hn,Nat.add_sub_cancel];have j:∀w,Calls prog 36 #[.string (B (l.drop n)),.string ⟨#[84,65,71]⟩] w λe w'=>e=.returned (.bool (Lib.hasPrefix (l.drop n) tgL))/\w=w':=λw=>(strings_HasPrefix (B (l.drop n)) _ w).mono λe w' h=>⟨by rw[h.1,Z9];rfl,h.2.symm⟩
  have y:(B l).extract 0 n=B (l.take n):=by rw[Zby];rfl
  have C:(B l).extract n (n+128)=B (l.drop n):=by rw[Zby,List.take_of_length_le (by simp;omega)]
  have q:=pref3 (l.drop n);rw[q] at j;have U:=QQ y;have O:=QQ C;by_cases u:(l.drop n).take 3=tgL
  ·rw[if_pos u];rw[decide_eq_true u] at j;simp only;clear u q;generalize B (l.drop n)=L at*;generalize B (l.take n)=N at*;have W:=y;go_enter func10,ntmps10
   go_wp2_with (go_at_call 36;refine(j _).mono ?_;rintro e I ⟨rfl,rfl⟩)
   go_region
   go_wp2_with fail
   go_ret2
   exact⟨rfl,(Below.refl _ _).drew⟩
  ·rw[if_neg u];rw[decide_eq_false u] at j;simp only;clear u q;generalize B (l.drop n)=L at*;generalize B (l.take n)=N at*;go_enter func10,ntmps10
   go_wp2_with (go_at_call 36;refine(j _).mono ?_;rintro e I ⟨rfl,rfl⟩)
   go_ret2
   exact⟨rfl,Below.refl _ _⟩
open Go Go.RowKit Go.ChangeShapes Go.WideShapes Go.Deep
section
variable {H:Type} {enc:TypeId×Value->H} {w:World} {base:Nat} {spare:Nat->Bool} {held:Bool}
theorem Zvo{D:Nat}{cs:List Value}{x:DataW H×List MemPlace}(h:DataW.trod enc prog w base spare held D 25 cs=some x):∃(kd fb W:Int) (det:Bool),cs=[.int .i64 kd,.int .i64 fb,.bool det,.int .i64 W]:=by
 obtain⟨xs,n,_,_,hl,U,O⟩:=DataW.trod_struct underlying25 h;have hC:prog.cellsOf 25=4:=by kernel_rfl
 rw[hC] at hl;have o0:prog.cellsOf 22=1:=by kernel_rfl
 have o1:prog.cellsOf 23=1:=by kernel_rfl
 have o2:prog.cellsOf 4=1:=by kernel_rfl
 have o3:prog.cellsOf 3=1:=by kernel_rfl
 have N:∀j,j<4->∃y,xs[j]?=some y:=λj hj=>⟨_,List.getElem?_eq_getElem (by rw[U];exact hj)⟩
 obtain⟨y0,e0⟩:=N 0 (by omega);obtain⟨Z,e1⟩:=N 1 (by omega);obtain⟨Y,e2⟩:=N 2 (by omega);obtain⟨X,e3⟩:=N 3 (by omega);have g0:=O 0 _ rfl;have C:=O 1 _ rfl;have u:=O 2 _ rfl;have q:=O 3 _ rfl;rw[e0] at g0;rw[e1] at C;rw[e2] at u;rw[e3] at q
 match cs,hl with
 |[L,J,c2,I],_=>
  change DataW.trod enc prog w base spare held n 22 ((([L,J,c2,I]:List Value).drop 0).take (prog.cellsOf 22))=some y0 at g0
  rw[o0] at g0;change DataW.trod enc prog w base spare held n 22 [L]=some y0 at g0
  change DataW.trod enc prog w base spare held n 23 ((([L,J,c2,I]:List Value).drop 1).take (prog.cellsOf 23))=some Z at C
  rw[o1] at C;change DataW.trod enc prog w base spare held n 23 [J]=some Z at C
  change DataW.trod enc prog w base spare held n 4 ((([L,J,c2,I]:List Value).drop 2).take (prog.cellsOf 4))=some Y at u
  rw[o2] at u;change DataW.trod enc prog w base spare held n 4 [c2]=some Y at u
  change DataW.trod enc prog w base spare held n 3 ((([L,J,c2,I]:List Value).drop 3).take (prog.cellsOf 3))=some X at q
  rw[o3] at q;change DataW.trod enc prog w base spare held n 3 [I]=some X at q
  obtain⟨z0,V,_,_⟩:=DataW.trod_int underlying22 g0;obtain⟨z1,d1,_,_⟩:=DataW.trod_int underlying23 C;obtain⟨b2,d2,_⟩:=DataW.trod_bool underlying4 u;obtain⟨z3,d3,_,_⟩:=DataW.trod_int underlying3 q;injection V with V
  injection d1 with d1
  injection d2 with d2
  injection d3 with d3
  subst V d1 d2 d3;exact⟨z0,z1,z3,b2,rfl⟩
end
