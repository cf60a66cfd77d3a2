/- Lemmas for a statement on the tops; conditions: as each says. -/
import Derived.Test.YtecandjkbbpooaaGreatDoorM20
import Derived.Test.YtecandjkbbpooaaGreatDoorM35
set_option linter.unusedVariables false
set_option linter.unusedSimpArgs false
set_option maxRecDepth 100000
set_option maxHeartbeats 4000000
namespace Go.Proofs.YtecandjkbbpooaaGreatDoor
open Go Go.RowKit
def RdN {α:Type} (m:Nat)(f:α→List Value)(w:World)(B:Nat)(A:Option Addr)(l:List α):Prop:=Reads w B m A l.length (l.flatMap f)
section
variable {α:Type} {m:Nat} {f:α→List Value} {w w':World} {B0 B1:Nat} {A:Option Addr} {l:List α}
theorem RdN.below (h:RdN m f w B0 A l)(hb:Below B0 w w'):RdN m f w' B0 A l:=Reads.below h hb
theorem RdN.more (h:RdN m f w B0 A l)(hb:B0≤B1):RdN m f w B1 A l:=Reads.more h hb
theorem RdN.at_ (hf:∀x,(f x).length=m)(h:RdN m f w B0 A l){k:Nat} {x:α} (hk:l[k]? =some x):
 ∃ad,A=some ad∧ad.block<B0∧∀j u,j<m→(f x)[j]? =some u→w.cell? (ad.add (k*m+j))=some u:=by
 have hlt:k<l.length:=(List.getElem?_eq_some_iff.1 hk).1;obtain⟨ad,hA,hb,hc⟩:=h.2 (by omega);exact⟨ad,hA,hb,fun j u hj hu=>hc _ _ ((Zet m f hf l k j x hk hj).trans hu)⟩
theorem RdN.of_rows (hf:∀x,(f x).length=m){v:Value} (h:Zi f B0 w v l):∃A c,v= .slice A l.length c∧RdN m f w w.heap.size A l:=by
 rcases h with⟨rfl,rfl⟩|⟨bk,c,h0,rfl,h2,h5,h3,h4⟩
 · exact⟨none,0,rfl,Reads.none_⟩
 · refine⟨_,c,rfl,Zga m f hf l,fun _=>⟨_,rfl,h3,fun j u hu=> ?_⟩⟩;have hadd:(⟨bk,0,none⟩:Addr).add j=⟨bk,j,none⟩:=by unfold Addr.add;split<;>simp_all
   rw [hadd];exact h4 j u hu
end
def ckL:List Lt→List Pi→Nat→Nat×Nat
 |[],[],_=>(0,0)
 |[],_::_,i=>(5,i)
 |_::_,[],i=>(5,i)
 |l::ls,p::ps,i=>if Zh l p≠0 then(Zh l p,i) else ckL ls ps (i+1)
def ZcW (ls:List Lt):List Lt:=if ls=[] then [.data] else ls
def Zaj (v:Nat)(id:List UInt8)(ps:List Pi):Nat×Nat:=ckL (ZcW (Zd v id)) ps 0
theorem ZpR (ls:List Lt)(ps:List Pi)(k:Nat)(h:k<ls.length)(hp:ps.length≤k):ckL (ls.drop k) (ps.drop k) k=(5,k):=by
 rw [List.drop_eq_getElem_cons h,List.drop_of_length_le hp];rfl
theorem ZpS (ls:List Lt)(ps:List Pi)(k:Nat)(h:k<ls.length)(hp:k<ps.length):ckL (ls.drop k) (ps.drop k) k=if Zh ls[k] ps[k]≠0 then(Zh ls[k] ps[k],k) else ckL (ls.drop (k+1)) (ps.drop (k+1)) (k+1):=by
 rw [List.drop_eq_getElem_cons h,List.drop_eq_getElem_cons hp,ckL]
theorem ZpQ (ls:List Lt)(ps:List Pi)(k:Nat)(h:ls.length≤k):ckL (ls.drop k) (ps.drop k) k=if k<ps.length then(5,k) else(0,0):=by
 rw [List.drop_of_length_le h];by_cases hp:k<ps.length
 · rw [if_pos hp,List.drop_eq_getElem_cons hp];rfl
 · rw [if_neg hp,List.drop_of_length_le (by omega)];rfl
theorem Zfm (p:Pi):(piL p).length=4:=rfl
theorem Zi.at4 {w:World} {bk:Nat} {l:List Pi} (h:∀j u,(l.flatMap piL)[j]? =some u→w.cell? ⟨bk,j,none⟩=some u){k:Nat} {p:Pi} (hx:l[k]? =some p):
 w.cell? ⟨bk,k*4,none⟩=some (.string p.nm)∧w.cell? ⟨bk,k*4+1,none⟩=some (.bool p.raw)∧w.cell? ⟨bk,k*4+2,none⟩=some (.string (B p.text))∧w.cell? ⟨bk,k*4+3,none⟩=some (.int .i64 p.set):=by
 have q:∀j,j<4→(l.flatMap piL)[k*4+j]? =(piL p)[j]?:=fun j hj=>Zet 4 piL Zfm l k j p hx hj;exact⟨h _ _ (q 0 (by decide)),h _ _ (q 1 (by decide)),h _ _ (q 2 (by decide)),h _ _ (q 3 (by decide))⟩
structure CfSt (w wx:World):Prop where
 res:Bx wx w.heap.size #[.int .i64 0,.int .i64 0] 62
 blw:Below w.heap.size w wx
section
variable {w wx wy:World}
theorem CfSt.below (h:CfSt w wx)(hb:Below wx.heap.size wx wy):CfSt w wy:=⟨h.res.below hb,h.blw.trans (hb.mono h.blw.size)⟩
theorem CfSt.mk0 (w:World):CfSt w (w.alloc (.cells #[.int .i64 0,.int .i64 0] 62)):=⟨Bx.new w _ _,(Below.refl _ _).alloc (Nat.le_refl _) _⟩
theorem CfSt.fin (h:CfSt w wx)(x y:Value):Bx ((wx.setCell ⟨w.heap.size,0,none⟩ x).setCell ⟨w.heap.size,1,none⟩ y) w.heap.size #[x,y] 62∧Below w.heap.size w ((wx.setCell ⟨w.heap.size,0,none⟩ x).setCell ⟨w.heap.size,1,none⟩ y):=
 ⟨Za9 h.res x y,(h.blw.setCell (p:=⟨w.heap.size,0,none⟩) (Nat.le_refl _) x).setCell (p:=⟨w.heap.size,1,none⟩) (Nat.le_refl _) y⟩
end
def Pc4 (w:World)(ad:Addr)(k:Nat)(p:Pi):Prop:=w.cell? (ad.add (k*4))=some (.string p.nm)∧w.cell? ⟨(ad.add (k*4)).block,(ad.add (k*4)).off+1,none⟩=some (.bool p.raw)∧w.cell? ⟨(ad.add (k*4)).block,(ad.add (k*4)).off+2,none⟩=some (.string (B p.text))∧w.cell? ⟨(ad.add (k*4)).block,(ad.add (k*4)).off+3,none⟩=some (.int .i64 p.set)
theorem Pc4.below {w w':World} {ad:Addr} {k:Nat} {p:Pi} (h:Pc4 w ad k p)(hlt:ad.block<w.heap.size)(hb:Below w.heap.size w w'):Pc4 w' ad k p:=by
 obtain⟨a,b,c,d⟩:=h;have hl:(ad.add (k*4)).block<w.heap.size:=by rw [ZaX];exact hlt
 exact⟨(hb.cell (p:=ad.add (k*4)) hl).trans a,(hb.cell (p:=⟨(ad.add (k*4)).block,(ad.add (k*4)).off+1,none⟩) hl).trans b,(hb.cell (p:=⟨(ad.add (k*4)).block,(ad.add (k*4)).off+2,none⟩) hl).trans c,(hb.cell (p:=⟨(ad.add (k*4)).block,(ad.add (k*4)).off+3,none⟩) hl).trans d⟩
theorem RdN.pc4 {w:World} {B0:Nat} {A:Option Addr} {l:List Pi} (h:RdN 4 piL w B0 A l){k:Nat} {p:Pi} (hk:l[k]? =some p):∃ad,A=some ad∧ad.block<B0∧Pc4 w ad k p:=by
 obtain⟨ad,hA,hb,hg⟩:=h.at_ Zfm hk;have g0:=hg 0 _ (by omega) rfl;have g1:=hg 1 _ (by omega) rfl;have g2:=hg 2 _ (by omega) rfl;have g3:=hg 3 _ (by omega) rfl;rw [Nat.add_zero] at g0;rw [ZfS _ _ _ (by omega)] at g1 g2 g3;exact⟨ad,hA,hb,g0,g1,g2,g3⟩
def CfRel (w:World)(ls:List Lt)(ps:List Pi)(i:Value)(wx:World):Prop:=∃k:Nat,k≤ls.length∧i= .int .i64 k∧Hid (CfSt w wx)∧Hid (ckL ls ps 0=ckL (ls.drop k) (ps.drop k) k)
theorem Zi8 (v:Nat)(id:List UInt8)(hid:id.length≤100000)(A:Option Addr)(c:Nat)(ps:List Pi)(w:World)(hr:RdN 4 piL w w.heap.size A ps)(hn:ps.length≤100000)(hps:∀p∈ps,p.text.length≤100000)(hG:Grd w):
 Calls Tryz.prog 143 #[.int .i64 v,.string (B id),.slice A ps.length c] w (ZfF w (Zaj v id ps)):=by
 have hla:=fun w=>ZeT v id hid w;have hlb:Zm (ZcW (Zd v id))=if Zd v id=[] then [114] else Zm (Zd v id):=by unfold ZcW;split<;>rfl
 unfold Zaj;obtain⟨ls,hls⟩:∃ls,ls=ZcW (Zd v id):=⟨_,rfl⟩
 rw [←hls] at hlb⊢;generalize hP:ZfF w (ckL ls ps 0)=P at*;have HP:Hid (∀x y w',ckL ls ps 0=(x,y)→Below w.heap.size w w'→P (.returned (.agg #[.int .i64 (x:Nat),.int .i64 (y:Nat)])) w'):=Lib.hid (by
  intro x y w' h1 h2;rw [←hP,h1];exact⟨rfl,h2⟩)
 have hlen:(Zm ls).length=ls.length:=by unfold Zm;simp
 have hL8:ls.length≤8:=by
  rw [hls];unfold ZcW Zd;(repeat' split)<;>simp
 have hsz:=Zl (Zm ls);rw [hlen] at hsz;have Hrow:=Lib.hid hr;have G0:=Lib.hid hG;have Hps:=Lib.hid hps;clear hr hP hG hps;go_enter Tryz.func143,Tryz.ntmps143
 go_upto_if 14 with(go_at_call 105;refine(hla _).mono ?_;rintro e w1 ⟨rfl,rfl⟩)
 go_cut [7] (fun s7 wx=>s7= .string (B (Zm ls))∧wx=(w.alloc (.cells #[.int .i64 0,.int .i64 0] 62)))
 case first=>
  by_cases h0:Zd v id=[]
  · rw [if_pos h0] at hlb;have Hlb:=Lib.hid hlb;rw [h0,show B (Zm [])=⟨#[]⟩ from rfl,show(⟨#[]⟩:ByteArray).toList.isEmpty=true by rw [ByteArray.toList_eq];rfl];clear hlb;go_wp2_with fail
    go_meet
    exact⟨by rw [Hlb.out];rfl,rfl⟩
  · rw [if_neg h0] at hlb;have hne:(B (Zm (Zd v id))).toList.isEmpty=false:=Zeg (by unfold Zm;intro h;exact h0 (List.map_eq_nil_iff.1 h));have hlb2:B (Zm ls)=B (Zm (Zd v id)):=by rw [hlb]
    have Hlb:=Lib.hid hlb2;clear hlb hlb2;rw [hne];generalize B (Zm (Zd v id))=LB at*;go_wp2_with fail
    go_meet
    exact⟨by rw [Hlb.out],rfl⟩
 obtain⟨rfl,rfl⟩:=hcut;clear hla hlb hls;go_wp2_with fail
 go_loopw [17] (fun i wx=>CfRel w ls ps i wx) (fun i _=>ls.length - (intOf i).toNat)
 case atStart=>exact⟨0,Nat.zero_le _,rfl,Lib.hid (CfSt.mk0 w),Lib.hid rfl⟩
 case round=>
  obtain⟨k,hk,rfl,hS,hck⟩:=hrel;have r0:=hS.out.res.cell 0;have r1:=hS.out.res.cell 1;have rf:=hS.out.res.free;have rl:=hS.out.res.lt;by_cases hlt:k<ls.length
  · by_cases hlp:k<ps.length
    · have hst:=ZpS ls ps k hlt hlp;obtain⟨bk,rfl,hbk,hq4⟩:=((Hrow.out.below hS.out.blw).more hS.out.blw.size).pc4 (List.getElem?_eq_getElem hlp);obtain⟨q0,q1,q2,q3⟩:=hq4;have hgk:=Zbc (Zm ls) k (by rw [hlen];exact hlt);have hlk:(Zm ls)[k]'(by rw [hlen];exact hlt)=ltB ls[k]:=by simp [Zm]
      rw [hlk] at hgk;have hwr:=fun w hG=>ZnQ ls[k] ps[k] (Hps.out _ (List.getElem_mem hlp)) w hG;have Gx:=Lib.hid (G0.out.below hS.out.blw);have Hst:=Lib.hid hst;clear hst hlk;unfold piA at hwr;generalize Zh ls[k] ps[k]=wg at*;generalize ltB ls[k]=ch at*;generalize hpk:ps[k]=p at*;have hklen:k<(Zm ls).length:=by rw [hlen];exact hlt
      have Q0:Hid (Pc4 wr bk k p):=Lib.hid ⟨q0,q1,q2,q3⟩;have Q0d:Hid (Pc4 wr.drew bk k p):=Lib.hid ⟨q0,q1,q2,q3⟩;have Gd:Hid (Grd wr.drew):=Lib.hid (Gx.out.below (below_drewN (Below.refl _ _) 1));have hbx:bk.block<wr.heap.size:=hbk;have Sd:Hid (CfSt w wr.drew):=Lib.hid (hS.out.below (below_drewN (Below.refl _ _) 1));have hbd:bk.block<wr.drew.heap.size:=hbx;have H0:=Q0;have H0d:=Q0d;unfold Pc4 at Q0 Q0d;by_cases hw0:wg=0
      · have hck2:Hid (ckL ls ps 0=ckL (ls.drop (k+1)) (ps.drop (k+1)) (k+1)):=Lib.hid (by rw [hck.out,Hst.out,if_neg (by omega)]);subst hw0;clear Hst;go_wp2_with fail
        go_region_held3 (fun w'=>w'.cell? (bk.add (k*4))=some (.string p.nm)∧w'.cell? ⟨(bk.add (k*4)).block,(bk.add (k*4)).off+1,none⟩=some (.bool p.raw)∧w'.cell? ⟨(bk.add (k*4)).block,(bk.add (k*4)).off+2,none⟩=some (.string (B p.text))∧w'.cell? ⟨(bk.add (k*4)).block,(bk.add (k*4)).off+3,none⟩=some (.int .i64 p.set))
         (first|with_reducible exact Q0.out|with_reducible exact Q0d.out|with_reducible exact Q1.out)
         (first|(go_at_call 222;refine(hwr _ (by first|with_reducible exact Gd.out|with_reducible exact Gx.out)).mono ?_;rintro e w1 ⟨rfl,hb1⟩;have S1:=Lib.hid (by first|with_reducible exact Sd.out.below hb1|with_reducible exact hS.out.below hb1);have Q1:Hid (Pc4 w1 bk k p):=Lib.hid (by first|with_reducible exact Pc4.below H0d.out hbd hb1|with_reducible exact Pc4.below H0.out hbx hb1);unfold Pc4 at Q1))
        all_goals
         go_wp2_with fail
         go_roundw
         case rel=>exact⟨k+1,by omega,by go_num,S1,hck2⟩
         case measure=>simp [intOf];omega
      · have hck2:=Lib.hid (show ckL ls ps 0=(wg,k) by rw [hck.out,Hst.out,if_pos hw0]);have hwne:((wg:Int)==0)=false:=by rw [beq_eq_false_iff_ne];omega
        have hwne2:((wg:Int) !=0)=true:=by simp;omega
        clear Hst hw0;go_wp2_with fail
        go_region_held3 (fun w'=>w'.cell? (bk.add (k*4))=some (.string p.nm)∧w'.cell? ⟨(bk.add (k*4)).block,(bk.add (k*4)).off+1,none⟩=some (.bool p.raw)∧w'.cell? ⟨(bk.add (k*4)).block,(bk.add (k*4)).off+2,none⟩=some (.string (B p.text))∧w'.cell? ⟨(bk.add (k*4)).block,(bk.add (k*4)).off+3,none⟩=some (.int .i64 p.set))
         (first|with_reducible exact Q0.out|with_reducible exact Q0d.out|with_reducible exact Q1.out)
         (first|(go_at_call 222;refine(hwr _ (by first|with_reducible exact Gd.out|with_reducible exact Gx.out)).mono ?_;rintro e w1 ⟨rfl,hb1⟩;have S1:=Lib.hid (by first|with_reducible exact Sd.out.below hb1|with_reducible exact hS.out.below hb1);have Q1:Hid (Pc4 w1 bk k p):=Lib.hid (by first|with_reducible exact Pc4.below H0d.out hbd hb1|with_reducible exact Pc4.below H0.out hbx hb1);unfold Pc4 at Q1;have t0:=S1.out.res.cell 0;have t1:=S1.out.res.cell 1;have tf:=S1.out.res.free;have tl:=S1.out.res.lt))
        all_goals
         go_wp2_with fail
         have F:=S1.out.fin (.int .i64 (wg:Nat)) (.int .i64 (k:Nat));refine bodyPost_ret (results_cell_row rfl _ _ w.heap.size _ _ _ _ rfl F.1 Tryz.underlying62 rfl (by kernel_rfl)) rfl ?_;exact HP.out _ _ _ hck2.out F.2
    · have hck2:=Lib.hid (show ckL ls ps 0=(5,k) by rw [hck.out,ZpR ls ps k hlt (by omega)]);go_wp2_with fail
      have F:=hS.out.fin (.int .i64 5) (.int .i64 (k:Nat));refine bodyPost_ret (results_cell_row rfl _ _ w.heap.size _ _ _ _ rfl F.1 Tryz.underlying62 rfl (by kernel_rfl)) rfl ?_;exact HP.out _ _ _ hck2.out F.2
  · have hke:k=ls.length:=by omega
    have hend:=ZpQ ls ps k (by omega);by_cases hp:k<ps.length
    · have hck2:=Lib.hid (show ckL ls ps 0=(5,k) by rw [hck.out,hend,if_pos hp]);clear hend;subst hke;go_wp2_with fail
      have F:=hS.out.fin (.int .i64 5) (.int .i64 (ls.length:Nat));refine bodyPost_ret (results_cell_row rfl _ _ w.heap.size _ _ _ _ rfl F.1 Tryz.underlying62 rfl (by kernel_rfl)) rfl ?_;exact HP.out _ _ _ hck2.out F.2
    · have hck2:=Lib.hid (show ckL ls ps 0=(0,0) by rw [hck.out,hend,if_neg hp]);clear hend;go_wp2_with fail
      have F:=hS.out.fin (.int .i64 0) (.int .i64 0);refine bodyPost_ret (results_cell_row rfl _ _ w.heap.size _ _ _ _ rfl F.1 Tryz.underlying62 rfl (by kernel_rfl)) rfl ?_;exact HP.out _ _ _ hck2.out F.2
def enU (t:List UInt8):List UInt8:=match Zcl t with
 | .inl ps=>[255,254]++Zr false ps
 | .inr _=>[]
def enT (enc:Nat)(t:List UInt8):List UInt8:=if enc=1 then enU t else t
def enP (enc:Nat)(p:Pi):List UInt8:=if p.raw then p.text else enT enc p.text
def tlP (enc:Nat):Lt→List UInt8
 | .mime=>[0]
 | .desc=>List.replicate (Zas enc) 0
 |_=>[]
def prL (enc:Nat):List Lt→List Pi→List UInt8
 |l::ls,p::ps=>enP enc p++(tlP enc l++prL enc ls ps)
 |_,_=>[]
theorem Zqy (t:List UInt8)(ht:t.length≤100000):(enU t).length≤1000000:=by
 unfold enU;rcases Zdx t with⟨ps,h,e⟩|⟨n,h,e⟩
 · rw [e];have h1:ps.length≤(B t).size:=h.len;have h2:=(Zfg false ps).2;rw [Zl] at h1;show([255,254]++Zr false ps).length≤1000000
   simp only [List.length_append,List.length_cons,List.length_nil];omega
 · rw [e];simp
theorem Zqw (enc:Nat)(p:Pi)(h:p.text.length≤100000):(enP enc p).length≤1000000:=by
 unfold enP enT;split
 · omega
 · split
   · exact Zqy _ h
   · omega
theorem Zoa (t:List UInt8)(ht:t.length≤100000)(hu:Zbz t=true)(w:World)(hG:Grd w):
 Calls Tryz.prog 144 #[.string (B t)] w fun e w'=>e= .returned (.tuple #[.string (B (enU t)),.agg #[.int .i64 0,.int .i64 0]])∧Below w.heap.size w w':=by
 unfold Zbz at hu;unfold enU;rcases Zdx t with⟨ps,h,e⟩|⟨n,h,e⟩
 · rw [e];exact Zpj (B t) ps h (by rw [Zl];omega) w hG.tabs
 · rw [e] at hu;cases hu
theorem Zkh:∀(ls:List Lt) (ps:List Pi) (i:Nat),ckL ls ps i=(0,0)→ls.length=ps.length∧∀k (h1:k<ls.length) (h2:k<ps.length),Zh ls[k] ps[k]=0
 |[],[],_,_=>⟨rfl,fun k h=>by simp at h⟩
 |[],_::_,i,h=>by simp [ckL] at h
 |_::_,[],i,h=>by simp [ckL] at h
 |l::ls,p::ps,i,h=>by
  rw [ckL] at h;by_cases hw:Zh l p=0
  · rw [if_neg (by omega)] at h;obtain⟨h1,h2⟩:=Zkh ls ps _ h;refine⟨by simp [h1],fun k hk1 hk2=> ?_⟩;cases k with
    |zero=>exact hw
    |succ k=>exact h2 k (by simpa using hk1) (by simpa using hk2)
  · rw [if_pos hw] at h;simp only [Prod.mk.injEq] at h;omega
theorem Zug {l:Lt} {p:Pi} (h:Zh l p=0):p.raw=true∨Zbz p.text=true:=by
 unfold Zh at h;cases hr:p.raw with
 |true=>exact .inl rfl
 |false=>
  right
  rw [hr] at h;cases hu:Zbz p.text with
  |true=>rfl
  |false=>
   rw [hu] at h;cases l<;>simp [ZY] at h
   split at h<;>omega
theorem Zma (enc:Nat):∀(ls:List Lt) (ps:List Pi) (k:Nat) (h1:k<ls.length) (h2:k<ps.length),prL enc (ls.take (k+1)) (ps.take (k+1))=prL enc (ls.take k) (ps.take k)++(enP enc ps[k]++tlP enc ls[k])
 |[],_,k,h1,_=>by simp at h1
 |_::_,[],k,_,h2=>by simp at h2
 |l::ls,p::ps,0,_,_=>by simp [prL]
 |l::ls,p::ps,k+1,h1,h2=>by
  have:=Zma enc ls ps k (by simpa using h1) (by simpa using h2);simp only [List.take_succ_cons,prL,this,List.getElem_cons_succ,List.append_assoc]
theorem Zl9 (enc:Nat):∀(ls:List Lt) (ps:List Pi),(∀p∈ps,p.text.length≤100000)→(prL enc ls ps).length≤1000002*ps.length
 |[],[],_=>by simp [prL]
 |[],_::_,_=>by simp [prL]
 |_::_,[],_=>by simp [prL]
 |l::ls,p::ps,h=>by
  have h1:=Zl9 enc ls ps fun q hq=>h q (List.mem_cons_of_mem _ hq);have h2:=Zqw enc p (h p (List.mem_cons_self ..));have h3:(tlP enc l).length≤2:=by
   unfold tlP;split
   · simp
   · unfold Zas;rw [List.length_replicate];split<;>omega
   · simp
  simp only [prL,List.length_append,List.length_cons];omega
theorem ZtI (enc:Nat)(l:Lt)(h:ltB l=122):tlP enc l=[0]:=by cases l<;>first|rfl|(exact absurd h (by decide))
theorem ZtH (enc:Nat)(l:Lt)(h:ltB l=100):tlP enc l=List.replicate (Zas enc) 0:=by cases l<;>first|rfl|(exact absurd h (by decide))
theorem tlP_no (enc:Nat)(l:Lt)(h:ltB l≠122)(h2:ltB l≠100):tlP enc l=[]:=by cases l<;>first|rfl|(exact absurd rfl h)|(exact absurd rfl h2)
def scV (enc:Nat):Array Value:=#[.pointer none,.int .u8 enc,.int .i64 0,.int .i64 0,.bool false,.int .i64 0]
structure PrSt (w wx:World)(S enc:Nat):Prop where
 res:Bx wx w.heap.size #[.int .i64 0,.int .i64 0] 62
 sc:Bx wx S (scV enc) 166
 hS:w.heap.size<S
 blw:Below w.heap.size w wx
section
variable {w wx wy:World} {S enc:Nat}
theorem PrSt.below (h:PrSt w wx S enc)(hb:Below wx.heap.size wx wy):PrSt w wy S enc:=⟨h.res.below hb,h.sc.below hb,h.hS,h.blw.trans (hb.mono h.blw.size)⟩
theorem PrSt.alloc (h:PrSt w wx S enc)(o:Obj):PrSt w (wx.alloc o) S enc:=h.below ((Below.refl _ _).alloc (Nat.le_refl _) _)
theorem PrSt.low {B:Nat} (h:PrSt w wx S enc)(hb:Below B wx wy)(hB:S<B):PrSt w wy S enc:=
 ⟨(hb.block _ (by have:=h.hS;omega)).trans h.res,(hb.block S hB).trans h.sc,h.hS,h.blw.trans (hb.mono (by have:=h.hS;omega))⟩
theorem PrSt.fin (h:PrSt w wx S enc)(x y:Value):Bx ((wx.setCell ⟨w.heap.size,0,none⟩ x).setCell ⟨w.heap.size,1,none⟩ y) w.heap.size #[x,y] 62∧Below w.heap.size w ((wx.setCell ⟨w.heap.size,0,none⟩ x).setCell ⟨w.heap.size,1,none⟩ y):=
 ⟨Za9 h.res x y,(h.blw.setCell (p:=⟨w.heap.size,0,none⟩) (Nat.le_refl _) x).setCell (p:=⟨w.heap.size,1,none⟩) (Nat.le_refl _) y⟩
end
def ZbN (base:Nat)(w:World)(v:Value)(L:List (List UInt8)):Prop:=w.ownsRow base 9 1 v L.length (L.map sV)
theorem ZbN.below {base:Nat} {w w':World} {v:Value} {L:List (List UInt8)} (h:ZbN base w v L)(hb:Below w.heap.size w w'):ZbN base w' v L:=ZE h hb
theorem ZbN.len {base:Nat} {w:World} {v:Value} {L:List (List UInt8)} (h:ZbN base w v L):∃A c,v= .slice A L.length c∧L.length≤c:=by
 unfold ZbN at h;exact(ZaL h).2
theorem ZbN.alloc {base:Nat} {w:World} {v:Value} {L:List (List UInt8)} (h:ZbN base w v L)(o:Obj):ZbN base (w.alloc o) v L:=h.below ((Below.refl _ _).alloc (Nat.le_refl _) _)
def PrRel (w:World)(S enc base:Nat)(ls:List Lt)(ps:List Pi)(vl i:Value)(wr:World):Prop:=
 ∃(k:Nat) (L:List (List UInt8)),k≤ls.length∧i= .int .i64 k∧Hid (PrSt w wr S enc)∧Hid (ZbN base wr vl L)∧L≠[]∧L.length≤1+2*k∧Hid (L.flatten=UInt8.ofNat enc::prL enc (ls.take k) (ps.take k))∧base≤wr.heap.size
def Zd8 (w:World)(out:List UInt8)(e:Ending)(w':World):Prop:=e= .returned (.tuple #[.string (B out),.agg #[.int .i64 0,.int .i64 0]])∧Below w.heap.size w w'
theorem Zi9 (v:Nat)(id:List UInt8)(hid:id.length≤100000)(A:Option Addr)(c:Nat)(ps:List Pi)(w:World)(hr:RdN 4 piL w w.heap.size A ps)(hps:∀p∈ps,p.text.length≤100000)(hG:Grd w)(h0:Zd v id≠[])(hck:Zaj v id ps=(0,0)):
 Calls Tryz.prog 71 #[.int .i64 v,.string (B id),.slice A ps.length c] w (Zd8 w (UInt8.ofNat (Zo v)::prL (Zo v) (Zd v id) ps)):=by
 have hla:=fun w=>ZeT v id hid w;have hne:(B (Zm (Zd v id))).toList.isEmpty=false:=Zeg (by unfold Zm;intro h;exact h0 (List.map_eq_nil_iff.1 h));have hlay:ZcW (Zd v id)=Zd v id:=by unfold ZcW;rw [if_neg h0]
 have hok:=Zkh (Zd v id) ps 0 (by unfold Zaj at hck;rw [hlay] at hck;exact hck);have hL8:(Zd v id).length≤8:=by unfold Zd;(repeat' split)<;>simp
 have hn8:ps.length≤8:=by have:=hok.1;omega
 have hchk:∀wx,Below w.heap.size w wx→Calls Tryz.prog 143 #[.int .i64 v,.string (B id),.slice A ps.length c] wx fun e w'=>e= .returned (.agg #[.int .i64 0,.int .i64 0])∧Below wx.heap.size wx w':=fun wx hb=>by
  have:=Zi8 v id hid A c ps wx ((hr.below hb).more hb.size) (by omega) hps (hG.below hb);rw [hck] at this;exact this
 have hv4:Zo v=if v=4 then 3 else 1:=rfl
 obtain⟨hlen,hwr⟩:=hok;have hlb:(Zm (Zd v id)).length=(Zd v id).length:=by unfold Zm;simp
 have hbd:=fun w=>ZT 0 0 rfl w;generalize hP:Zd8 w _=P at*;have Hrow:=Lib.hid hr;have G0:=Lib.hid hG;have Hps:=Lib.hid hps;have Hwr:=Lib.hid hwr;have Hchk:=Lib.hid hchk;clear hr hG hps hwr hchk hck hlay h0;generalize Zd v id=ls at*;generalize henc:Zo v=enc at*;have he8:enc=3∨enc=1:=by rw [hv4];split<;>simp
 have he3:enc≤3:=by omega
 have He8:=Lib.hid he8;have Hv4:=Lib.hid hv4;clear he8 hv4;go_enter Tryz.func71,Tryz.ntmps71
 go_upto_if 36 with(first
  |(go_at_call 143;refine(Hchk.out _ ((Below.refl _ _).alloc (Nat.le_refl _) _)).mono ?_;rintro e w1 ⟨rfl,hb1⟩;have R1:=Lib.hid ((Bx.new w _ _).below hb1);have L1:=Lib.hid (Ze hb1);clear hb1)
  |(go_at_call 7;refine(hbd _).mono ?_;rintro e w2 ⟨rfl,hb2⟩;have R2:=Lib.hid ((R1.out.alloc _).below hb2);have L2:=Lib.hid (L1.out.trans ((Ze hb2).mono L1.out.size));clear hb2)
  |(go_at_call 105;refine(hla _).mono ?_;rintro e w3 ⟨rfl,rfl⟩))
 have hz2:=L2.out.size;go_cut [10] (fun s10 wx=>∃S,s10= .pointer (some ⟨S,0,none⟩)∧PrSt w wx S enc)
 case first=>
  have hv4:=Hv4.out;have X2:=Lib.hid (Bx.new w2 (scV 1) 166);have hlt2:=X2.out.lt;have x1:=X2.out.cell 1;have xf:=X2.out.free 1;unfold scV at X2 x1;have hrl:=R2.out.lt;by_cases h4:v=4
  · subst h4;rw [if_pos rfl] at hv4;subst hv4;go_wp2_with fail
    go_meet
    exact⟨_,rfl,R2.out.alloc _,Bx.new w2 _ _,hrl,L2.out.alloc (by omega) _⟩
  · rw [if_neg h4] at hv4;subst hv4;have e4:((v:Int)==4)=false:=by rw [beq_eq_false_iff_ne];omega
    go_wp2_with fail
    go_meet
    exact⟨_,rfl,R2.out.alloc _,X2.out,hrl,L2.out.alloc (by omega) _⟩
 case rest=>
  obtain⟨S,rfl,hst⟩:=hcut;have S0:=Lib.hid hst;have a1:=hst.sc.cell 1;have hSl:=hst.sc.lt;have hSw:=hst.hS;clear hst;have hbg:∀w,Calls Tryz.prog 32 #[.int .u64 (enc:Nat),.int .i64 1] w fun e w'=>e= .returned (.string (B [UInt8.ofNat enc]))∧Below w.heap.size w w':=fun w=>by
   have:=ZeQ enc 1 (by omega) (by omega) (by omega) w;have e:Zah enc 1=[UInt8.ofNat enc]:=by simp only [Zah,Nat.pow_zero,Nat.div_one];rw [Nat.mod_eq_of_lt (by omega)]
   rw [e] at this;exact this
  have henw:IntKind.u64.wrap (enc:Int)=enc:=by rw [IntKind.wrap_u64];omega
  unfold scV at a1;go_wp2_with (go_at_call 32;refine(hbg _).mono ?_;rintro e w3 ⟨rfl,hb3⟩;have S3:=Lib.hid (S0.out.below hb3);have hz3:=hb3.size;clear hb3)
  have O0:Hid (ZbN (w3.heap.size) (w3.alloc (.cells #[.string (B [UInt8.ofNat enc])] 9)) (.slice (some ⟨w3.heap.size,0,none⟩) 1 1) [[UInt8.ofNat enc]]):=Lib.hid (World.ownsRow_lit (base:=w3.heap.size) (e:=9) (size:=1) w3 #[.string (B [UInt8.ofNat enc])] 1 (Nat.le_refl _) (by decide) rfl);clear a1;go_loopw [11,45] (fun vl i wr=>PrRel w S enc w3.heap.size ls ps vl i wr) (fun _ i _=>ls.length - (intOf i).toNat)
  case atStart=>exact⟨0,[[UInt8.ofNat enc]],Nat.zero_le _,rfl,Lib.hid (S3.out.alloc _),O0,by simp,by simp,Lib.hid (by cases ls<;>simp [prL]),by simp⟩
  case round=>
   obtain⟨k,L,hk,rfl,hS,hO,hL0,hLl,hfl,hbs⟩:=hrel;have hSw3:S<w3.heap.size:=by omega
   have a1:=hS.out.sc.cell 1;unfold scV at a1;obtain⟨AA,cc,rfl,hcc⟩:=hO.out.len;by_cases hlt:k<ps.length
   · have hll:k<ls.length:=by omega
     obtain⟨bk,rfl,hbk,hq4⟩:=((Hrow.out.below hS.out.blw).more hS.out.blw.size).pc4 (List.getElem?_eq_getElem hlt);obtain⟨q0,q1,q2,q3⟩:=hq4;have hw0:=Zug (Hwr.out k hll hlt);have hpl:=Hps.out _ (List.getElem_mem hlt);have hstep:=Zma enc ls ps k hll hlt;have hgk:=Zbc (Zm ls) k (by rw [hlb];exact hll);have hlk:(Zm ls)[k]'(by rw [hlb];exact hll)=ltB ls[k]:=by simp [Zm]
     rw [hlk] at hgk;have hklen:k<(Zm ls).length:=by rw [hlb];exact hll
     have Hstep:=Lib.hid hstep;have ht22:=ZtI enc ls[k];have ht00:=ZtH enc ls[k];have htno:=tlP_no enc ls[k];generalize tlP enc ls[k]=tl at*;generalize ltB ls[k]=ch at*;generalize ps[k]=p at*;clear hstep hlk;have X1:Hid (Bx (wr.alloc (.cells #[.string p.nm,.bool p.raw,.string (B p.text),.int .i64 p.set] 39)) wr.heap.size #[.string p.nm,.bool p.raw,.string (B p.text),.int .i64 p.set] 39):=Lib.hid (Bx.new wr _ _);have S1:=Lib.hid (hS.out.alloc (.cells #[.string p.nm,.bool p.raw,.string (B p.text),.int .i64 p.set] 39));have O1:=Lib.hid (hO.out.alloc (.cells #[.string p.nm,.bool p.raw,.string (B p.text),.int .i64 p.set] 39));have hz1:w3.heap.size+1≤(wr.alloc (.cells #[.string p.nm,.bool p.raw,.string (B p.text),.int .i64 p.set] 39)).heap.size:=by simp;omega
     have c2:=X1.out.cell 2;have hl1:=X1.out.lt;go_upto_region 15 with fail
     generalize (wr.alloc (.cells #[.string p.nm,.bool p.raw,.string (B p.text),.int .i64 p.set] 39))=W1 at*;clear q0 q1 q2 q3 c2;go_cut [59] (fun s59 wx=>s59= .bool (!p.raw&&decide (enc=1))∧wx=W1)
     case first=>
      have x1:=X1.out.cell 1;have a2:=S1.out.sc.cell 1;unfold scV at a2;cases hraw:p.raw with
      |true=>
       rw [hraw] at x1;go_wp2_with fail
       go_meet
       exact⟨by rw [hraw];rfl,rfl⟩
      |false=>
       rw [hraw] at x1;by_cases h1:enc=1
       · have e1:((enc:Int)==1)=true:=by rw [h1];rfl
         go_wp2_with fail
         go_meet
         exact⟨by rw [decide_eq_true h1,hraw];rfl,rfl⟩
       · have e1:((enc:Int)==1)=false:=by rw [beq_eq_false_iff_ne];omega
         go_wp2_with fail
         go_meet
         exact⟨by rw [decide_eq_false h1,hraw];rfl,rfl⟩
     case rest=>
      obtain⟨rfl,rfl⟩:=hcut
      go_upto_if 59 with fail
      go_cut [14] (fun s14 wx=>s14= .string (B (enP enc p))∧PrSt w wx S enc∧ZbN w3.heap.size wx (.slice AA L.length cc) L∧w3.heap.size≤wx.heap.size)
      case first=>
       have G1:=Lib.hid (G0.out.below S1.out.blw);cases hraw:p.raw with
       |true=>
        rw [show(!true&&decide (enc=1))=false from rfl];have hE:enP enc p=p.text:=by unfold enP;rw [hraw];rfl
        have HE:=Lib.hid hE;clear hE hraw;go_wp2_with fail
        go_meet
        exact⟨by rw [HE.out],S1.out,O1.out,by omega⟩
       |false=>
        have hu:=hw0.resolve_left (by rw [hraw];decide);by_cases h1:enc=1
        · rw [show(!false&&decide (enc=1))=true by rw [decide_eq_true h1];rfl];have hE:enP enc p=enU p.text:=by unfold enP enT;rw [hraw,if_neg (by decide),if_pos h1]
          have hmk:=fun w hG=>Zoa p.text hpl hu w hG;have HE:=Lib.hid hE;clear hE hraw h1 hu;go_wp2_with (first
           |(go_at_call 144;refine(hmk _ G1.out).mono ?_;rintro e w5 ⟨rfl,hb5⟩;have S5:=Lib.hid (S1.out.below hb5);have O5:=Lib.hid (O1.out.below hb5);have hz5:=hb5.size;clear hb5)
           |(go_at_call 7;refine(hbd _).mono ?_;rintro e w6 ⟨rfl,hb6⟩;have S6:=Lib.hid ((S5.out.alloc _).below hb6);have O6:=Lib.hid ((O5.out.alloc _).below hb6);have hz6:=Z9 hb6;clear hb6))
          go_meet
          exact⟨by rw [HE.out],S6.out,O6.out,by omega⟩
        · rw [show(!false&&decide (enc=1))=false by rw [decide_eq_false h1];rfl];have hE:enP enc p=p.text:=by unfold enP enT;rw [hraw,if_neg (by decide),if_neg h1]
          have HE:=Lib.hid hE;clear hE hraw h1 hu;go_wp2_with fail
          go_meet
          exact⟨by rw [HE.out],S1.out,O1.out,by omega⟩
      case rest=>
       obtain⟨rfl,hS5,hO5,hz5⟩:=hcut;have S5:=Lib.hid hS5;have O5:=Lib.hid hO5;clear hS5 hO5;generalize enP enc p=X at*;go_upto_region 21 with(at_builtin;refine Zbo rfl _ _ rfl w3.heap.size (.slice AA L.length cc) L rfl wc X O5.out hz5 (by omega) rfl ?_;intro v6 w6 HO6 hb6 hg6)
       have S6:=Lib.hid (S5.out.low hb6 hSw3);have O6:Hid (ZbN w3.heap.size w6 v6 (L++[X])):=HO6;have hz6:=hb6.size;clear hb6 hg6;obtain⟨L2,hL2⟩:∃L2,L2=L++[X]:=⟨_,rfl⟩
       rw [←hL2] at O6;have hln6:L2.length≤2+2*k:=by rw [hL2];simp;omega
       have hL20:L2≠[]:=by rw [hL2];simp
       have hL2f:L2.flatten=L.flatten++X:=by rw [hL2];simp
       have HL2f:=Lib.hid hL2f;clear hL2 hL2f;obtain⟨A6,c6,rfl,hc6⟩:=O6.out.len;by_cases h122:ch=122
       · have e122:((ch.toNat:Int)==122)=true:=by rw [h122];rfl
         have hF:Hid ((L2++[[0]]).flatten=UInt8.ofNat enc::prL enc (ls.take (k+1)) (ps.take (k+1))):=Lib.hid (by rw [Hstep.out,ht22 h122,List.flatten_append,HL2f.out,hfl.out];simp);clear ht22 ht00 htno Hstep h122 hfl;go_wp2_with (at_builtin;refine Zbo rfl _ _ rfl w3.heap.size (.slice A6 L2.length c6) L2 rfl w6 [0] O6.out (by omega) (by omega) rfl ?_;intro v7 w7 HO7 hb7 hg7)
         have hz7:=hb7.size;have S7:=Lib.hid (S6.out.low hb7 hSw3);clear hb7 hg7;go_roundw
         case rel=>exact⟨k+1,L2++[[0]],by omega,by go_num,S7,HO7,by simp,by simp;omega,hF,by omega⟩
         case measure=>simp [intOf];omega
       · have e122:((ch.toNat:Int)==122)=false:=by
          rw [beq_eq_false_iff_ne];intro e;exact h122 (UInt8.toNat_inj.1 (by show ch.toNat=122;omega))
         by_cases h100:ch=100
         · have e100:((ch.toNat:Int)==100)=true:=by rw [h100];rfl
           have b0:=S6.out.sc.six;obtain⟨b0,b1,b2,b3,b4,b5⟩:=b0;by_cases h1:enc=1
           · have hF:Hid ((L2++[[0,0]]).flatten=UInt8.ofNat enc::prL enc (ls.take (k+1)) (ps.take (k+1))):=Lib.hid (by rw [Hstep.out,ht00 h100,show Zas enc=2 by unfold Zas;rw [if_pos (.inl h1)],List.flatten_append,HL2f.out,hfl.out];simp [List.replicate]);have hend:=fun w=>Zi5 (.pointer none) enc (.inl h1) (.int .i64 0) (.int .i64 0) (.bool false) (.int .i64 0) w;clear ht22 ht00 htno Hstep h122 hfl h100 h1;go_wp2_with (first
              |(go_at_call 145;refine(hend _).mono ?_;rintro e w7 ⟨rfl,hb7⟩;have S7:=Lib.hid (S6.out.below hb7);have O7:=Lib.hid (O6.out.below hb7);have hz7:=hb7.size;clear hb7)
              |(at_builtin;refine Zbo rfl _ _ rfl w3.heap.size (.slice A6 L2.length c6) L2 rfl w7 [0,0] O7.out (by omega) (by omega) rfl ?_;intro v8 w8 HO8 hb8 hg8))
             have hz8:=hb8.size;have S8:=Lib.hid (S7.out.low hb8 hSw3);clear hb8 hg8 b0 b1 b2 b3 b4 b5;go_roundw
             case rel=>exact⟨k+1,L2++[[0,0]],by omega,by go_num,S8,HO8,by simp,by simp;omega,hF,by omega⟩
             case measure=>simp [intOf];omega
           · have h3:enc=3:=He8.out.resolve_right h1;have hF:Hid ((L2++[[0]]).flatten=UInt8.ofNat enc::prL enc (ls.take (k+1)) (ps.take (k+1))):=Lib.hid (by rw [Hstep.out,ht00 h100,show Zas enc=1 by unfold Zas;rw [if_neg (by omega)],List.flatten_append,HL2f.out,hfl.out];simp [List.replicate]);have hend:=fun w=>Zi4 (.pointer none) enc (by omega) (.int .i64 0) (.int .i64 0) (.bool false) (.int .i64 0) w;clear ht22 ht00 htno Hstep h122 hfl h100 h1 h3;go_wp2_with (first
              |(go_at_call 145;refine(hend _).mono ?_;rintro e w7 ⟨rfl,hb7⟩;have S7:=Lib.hid (S6.out.below hb7);have O7:=Lib.hid (O6.out.below hb7);have hz7:=hb7.size;clear hb7)
              |(at_builtin;refine Zbo rfl _ _ rfl w3.heap.size (.slice A6 L2.length c6) L2 rfl w7 [0] O7.out (by omega) (by omega) rfl ?_;intro v8 w8 HO8 hb8 hg8))
             have hz8:=hb8.size;have S8:=Lib.hid (S7.out.low hb8 hSw3);clear hb8 hg8 b0 b1 b2 b3 b4 b5;go_roundw
             case rel=>exact⟨k+1,L2++[[0]],by omega,by go_num,S8,HO8,by simp,by simp;omega,hF,by omega⟩
             case measure=>simp [intOf];omega
         · have e100:((ch.toNat:Int)==100)=false:=by
            rw [beq_eq_false_iff_ne];intro e;exact h100 (UInt8.toNat_inj.1 (by show ch.toNat=100;omega))
           have hF:Hid (L2.flatten=UInt8.ofNat enc::prL enc (ls.take (k+1)) (ps.take (k+1))):=Lib.hid (by rw [Hstep.out,htno h122 h100,HL2f.out,hfl.out];simp);clear ht22 ht00 htno Hstep h122 hfl h100;go_wp2_with fail
           go_roundw
           case rel=>exact⟨k+1,L2,by omega,by go_num,S6,O6,hL20,by omega,hF,by omega⟩
           case measure=>simp [intOf];omega
   · have hke:ls.take k=ls∧ps.take k=ps:=⟨List.take_of_length_le (by omega),List.take_of_length_le (by omega)⟩
     have hfin:=hfl.out;rw [hke.1,hke.2] at hfin;have hpl:=Zl9 enc ls ps Hps.out;have hjn:∀wx,wx=wr→Calls Tryz.prog 27 #[.slice AA L.length cc] wx fun e w'=>e= .returned (.string (B (UInt8.ofNat enc::prL enc ls ps)))∧Below wx.heap.size wx w':=by
      rintro wx rfl;have h:=Zed (l:=L) hO.out hL0 (by rw [hfin,List.length_cons];omega) (by omega);rw [hfin] at h;exact h
     have S1:=hS;clear hfl hke hfin hpl a1;generalize UInt8.ofNat enc::prL enc ls ps=OUT at*;generalize L.length=n8 at*;go_wp2_with (go_at_call 27;refine(hjn _ rfl).mono ?_;rintro e wz ⟨rfl,hbz⟩;have SZ:=Lib.hid (S1.out.below hbz);clear hbz;have r0:=SZ.out.res.cell 0;have r1:=SZ.out.res.cell 1;have rf:=SZ.out.res.free;have rl:=SZ.out.res.lt)
     have F:=SZ.out.fin (.int .i64 0) (.int .i64 0);refine bodyPost_ret (ZaT rfl _ _ w.heap.size _ _ _ _ _ rfl rfl F.1 Tryz.underlying62 rfl (by kernel_rfl)) rfl ?_;rw [←hP];exact⟨rfl,F.2⟩
end Go.Proofs.YtecandjkbbpooaaGreatDoor
namespace Go.Proofs.YtecandjkbbpooaaGreatDoor
open Go
inductive Pl where
 |nil
 |one (i:Nat) (still:Bool) (r:Pl)
 |two (i j:Nat) (p q:Pl)
section
variable {P:Program} {l:List Oper} {Q:Exit→Act→World→Prop} {S:World→Prop}
def ZfA (P:Program)(l:List Oper)(Q:Exit→Act→World→Prop)(S:World→Prop)(i:Nat)(R:Act→World→Prop)(a:Act)(w:World):Prop:=
 ∃o,ZbF l i=some o∧(if Region.wanted o (yielded l.toArray a.tmps)=true then o.wp P a w (fun a' w'=>S w'∧R a' w') Q else R (a.put o.dst undef) w)
theorem Zr6 {i:Nat} {R R':Act→World→Prop} {a:Act} {w:World} (h:ZfA P l Q S i R a w)(hS:S w)(hR:∀a w,S w→R a w→R' a w):
 ZfA P l Q S i R' a w:=by
 obtain⟨o,ho,hr⟩:=h;refine⟨o,ho,?_⟩;split
 · rename_i hw
   rw [if_pos hw] at hr;exact Oper.wp_mono (fun a' w' hh=>⟨hh.1,hR _ _ hh.1 hh.2⟩) hr
 · rename_i hw
   rw [if_neg hw] at hr;exact hR _ _ hS hr
theorem ZaD {i:Nat} {R:Act→World→Prop} {o:Oper} {a:Act} {w:World} (ho:ZbF l i=some o)(hw:Region.wanted o (yielded l.toArray a.tmps)=true)
 (h:∀K:Act→World→Prop,Shut (∀a w,S w→R a w→K a w)→o.wp P a w K Q):ZfA P l Q S i R a w:=
 ⟨o,ho,by rw [if_pos hw];exact h _ (fun a w hS hr=>⟨hS,hr⟩)⟩
end
section
variable {P:Program} {l:List Oper} {Q:Exit→Act→World→Prop} {S:World→Prop}
theorem ZjS {i:Nat} {o:Oper} {listed:Array Bool} {fuel:Nat} {a:Act} {w:World} (hsel:Region.noSelect l.toArray=true)(hQ:∀c (a:Act) d v w,Q (.panic c) (a.put d v) w→Q (.panic c) a w)
 (ho:ZbF l i=some o) (hw:Region.wanted o (yielded l.toArray a.tmps)=true) (v:Value) (hv:∀w,S w→(execOp a.eval o).run P w= .ok (.value v) w)
 (h1:(Region.ready .any l.toArray listed).contains i=true) (h2:Region.free .any l.toArray listed i=true) (hS:S w)
 (h:wpAnyH P .any l.toArray Q S fuel (listed.setIfInBounds i true) (a.put o.dst v) w):wpAnyH P .any l.toArray Q S (fuel+1) listed a w:=by
 rw [Zez] at ho;exact wpAnyH_take ho hsel h2 h1 (fun c a w=>hQ c a _ _ w) (.inl ⟨hw,hv⟩) hS h
theorem ZjR (hsel:Region.noSelect l.toArray=true)(hQ:∀c (a:Act) d v w,Q (.panic c) (a.put d v) w→Q (.panic c) a w){σ:Type}
 (R:σ→Act→World→Prop) (listed:σ→Array Bool) (rank:σ→Nat) (fin:σ→Bool) (pl:List (Nat×Bool))
 (hready:∀s,fin s=false→Region.ready .any l.toArray (listed s)≠[]∧0<rank s)
 (hstep:∀s a w,fin s=false→S w→R s a w→∀j,j∈Region.ready .any l.toArray (listed s)→ZfA P l Q S j (fun a' w'=>∃s',listed s'=(listed s).setIfInBounds j true∧rank s'<rank s∧R s' a' w') a w)
 (hfin:∀s a w,fin s=true→S w→R s a w→ZcY l.toArray pl (listed s)=true∧ZbK P l Q S pl a w):
 ∀(n:Nat) (s:σ) (a:Act) (w:World) (fuel:Nat),rank s≤n→n+pl.length≤fuel→S w→R s a w→wpAnyH P .any l.toArray Q S fuel (listed s) a w
 |n,s,a,w,fuel,hn,hf,hS,hR=>by
  cases hfi:fin s with
  |true=>
   obtain⟨h1,h2⟩:=hfin s a w hfi hS hR;exact Ze4 hsel hQ pl fuel _ a w h1 (by omega) hS h2
  |false=>
   obtain⟨h1,h2⟩:=hready s hfi;obtain⟨m,rfl⟩:∃m,n=m+1:=⟨n - 1,by omega⟩
   obtain⟨g,rfl⟩:∃g,fuel=g+1:=⟨fuel - 1,by omega⟩
   refine wpAnyH_all rfl h1 fun j hj=> ?_;obtain⟨o,ho,hr⟩:=Zr6 (hstep s a w hfi hS hR j hj) hS (R':=fun a' w'=>wpAnyH P .any l.toArray Q S g ((listed s).setIfInBounds j true) a' w') (fun a' w' hS' hh=>by
    obtain⟨s',e1,e2,e3⟩:=hh;rw [←e1];exact ZjR hsel hQ R listed rank fin pl hready hstep hfin m s' a' w' g (by omega) (by omega) hS' e3)
   rw [Zez] at ho;unfold wpOp;rw [ho];simp only;split
   · rename_i hw
     rw [if_pos hw] at hr;exact .inl hr
   · rename_i hw
     rw [if_neg hw] at hr;exact⟨hS,hr⟩
end
end Go.Proofs.YtecandjkbbpooaaGreatDoor
