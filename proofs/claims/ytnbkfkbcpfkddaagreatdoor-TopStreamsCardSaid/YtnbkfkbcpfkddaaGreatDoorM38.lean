/- Lemmas for a statement on the tops; conditions: as each says. -/
import Derived.Test.YtnbkfkbcpfkddaaGreatDoorM37
set_option linter.unusedVariables false
set_option linter.unusedSimpArgs false
set_option maxRecDepth 100000
set_option maxHeartbeats 1000000
namespace Go.Proofs.YtnbkfkbcpfkddaaGreatDoor
open Go Go.RowKit
def ZZ {α:Type} (f:α→List Value)(B:Nat)(w:World)(v:Value)(l:List α):Prop:=(l=[]∧∃A c,v= .slice A 0 c)∨Zg f B w v l
section
variable {α:Type} {m:Nat} {f:α→List Value} {B0:Nat} {w w':World} {v:Value} {l:List α}
theorem ZZ.below (h:ZZ f B0 w v l)(hb:Below w.heap.size w w'):ZZ f B0 w' v l:=h.imp id fun h=>h.below hb
theorem ZZ.but {C:Nat} (h:ZZ f B0 w v l)(hb:But C w.heap.size w w')(hC:C<B0):ZZ f B0 w' v l:=h.imp id fun h=>h.but hb hC
theorem ZZ.low {B1:Nat} (h:ZZ f B0 w v l)(hB:B1≤B0):ZZ f B1 w v l:=h.imp id fun h=>h.low hB
theorem ZZ.sl (h:ZZ f B0 w v l):∃A c,v= .slice A l.length c:=by
 rcases h with⟨rfl,A,c,rfl⟩|h
 · exact⟨A,c,rfl⟩
 · obtain⟨A,c,e,_⟩:=h.len;exact⟨A,c,e⟩
theorem ZZ.rd (hf:∀x,(f x).length=m)(h:ZZ f B0 w v l):∃A c,v= .slice A l.length c∧RdN m f w w.heap.size A l:=by
 rcases h with⟨rfl,A,c,rfl⟩|h
 · exact⟨A,c,rfl,by simp,fun h=>absurd h (by simp)⟩
 · exact RdN.of_rows hf h
theorem ZZ.of_own {base:Nat} {e:TypeId} {n:Nat} (hn:n=l.length)(h:w.ownsRow base e m v n (l.flatMap f)):ZZ f base w v l:=by
 by_cases hl:l=[]
 · left
   refine⟨hl,?_⟩;subst hl hn;rcases h.2 with⟨e,_⟩|⟨g,c,_,e,_⟩
   · exact⟨none,0,e⟩
   · exact⟨_,c,e⟩
 · exact .inr (Zg.of_own hn h fun e=>absurd e hl)
end
theorem RdN.sub {α:Type} {m:Nat} {f:α→List Value} {w:World} {B0:Nat} {ad:Addr} {l:List α} (hf:∀x,(f x).length=m)(h:RdN m f w B0 (some ad) l)(i n:Nat):RdN m f w B0 (some (ad.add (i*m))) ((l.drop i).take n):=by
 refine⟨ZcC m f hf _,fun hpos=> ?_⟩;have hlt:i<l.length:=by
  simp only [List.length_take,List.length_drop] at hpos;omega
 obtain⟨ad2,hA,hb,hc⟩:=h.2 (by omega);obtain rfl:ad=ad2:=Option.some.inj hA;refine⟨_,rfl,by rw [ZB];exact hb,fun j u hu=> ?_⟩;have hadd:(ad.add (i*m)).add j=ad.add (i*m+j):=by
  unfold Addr.add;by_cases h1:i*m=0<;>by_cases h2:j=0<;>simp [h1,h2,Nat.add_assoc]
 rw [hadd];refine hc _ _ ?_;rw [←hu];have e:l.flatMap f=(l.take i).flatMap f++(((l.drop i).take n).flatMap f++(l.drop (i+n)).flatMap f):=by
  rw [←List.flatMap_append,←List.flatMap_append];congr 1
  rw [←List.drop_drop,List.take_append_drop,List.take_append_drop]
 have hl1:((l.take i).flatMap f).length=i*m:=by rw [ZcC m f hf,List.length_take,Nat.min_eq_left (by omega)]
 have hj:j<(((l.drop i).take n).flatMap f).length:=(List.getElem?_eq_some_iff.1 hu).1;rw [e,List.getElem?_append_right (by omega),hl1,Nat.add_sub_cancel_left,List.getElem?_append_left hj]
theorem ZhW (p:Pg)(hp:PgFit p)(w:World):Calls Tryz.prog 50 #[.agg (pgA p)] w fun e w'=>e= .returned (.bool (Za0 p))∧Below w.heap.size w w':=by
 have HP:Hid (∀b w',Za0 p=b→Below w.heap.size w w'→(fun(e:Ending) (w':World)=>e= .returned (.bool (Za0 p))∧Below w.heap.size w w') (.returned (.bool b)) w'):=Lib.hid fun b w' h hb=>⟨by rw [h],hb⟩
 generalize (fun(e:Ending) (w':World)=>e= .returned (.bool (Za0 p))∧Below w.heap.size w w')=P at*;have hjn:∀wx:World,Calls Tryz.prog 112 #[.slice (some ⟨wx.heap.size,0,none⟩) 1 1] (wx.alloc (.cells (pgA p) 27)) (Zcu (wx.alloc (.cells (pgA p) 27)) (ZI false [] 0 [p])):=fun wx=>
  ZhM (some ⟨wx.heap.size,0,none⟩) 1 [p] (by simp) (by simpa using hp) _ ⟨rfl,fun _=>⟨_,rfl,by simp,fun j u hu=>by
   have hadd:(⟨wx.heap.size,0,none⟩:Addr).add j=⟨wx.heap.size,j,none⟩:=by unfold Addr.add;split<;>simp_all
   rw [hadd,(Bx.new wx (pgA p) 27).cell j];simpa [pgA,pgL] using hu⟩⟩
 have hO:Za0 p=match ZI false [] 0 [p] with
  | .ok [x]=>p.fl&&&2==2&&ZdW.isPrefixOf x
  |_=>false:=rfl
 have hj1:=hjn (w.alloc (.cells (pgA p) 27));rw [World.size_alloc] at hj1;have PB:=Lib.hid ((Bx.new w (pgA p) 27).alloc (.cells (pgA p) 27));have L0:=Lib.hid (((Below.refl _ w).alloc (Nat.le_refl _) (.cells (pgA p) 27)).alloc (by simp) (.cells (pgA p) 27));have hhs:=fun x1 x2 x3 w=>ZcV p.fl 2 2 rfl x1 x2 x3 w;unfold Zcu at hj1;clear hjn;unfold pgA at*;cases hj:ZI false [] 0 [p] with
 |error k=>
  rw [hj] at hj1 hO;have hbd:=fun w=>Za5 1 (k:Int) (by omega) w;simp only at hj1;go_enter Tryz.func50,Tryz.ntmps50
  go_wp2_with (first
   |(go_at_call 112;(with_reducible refine hj1.mono ?_);rintro e w1 ⟨hb1,rfl⟩;have L1:=Lib.hid ((L0.out.trans (hb1.mono L0.out.size)).alloc (Nat.le_trans L0.out.size hb1.size) (.cells #[.int .i64 1,.int .i64 (k:Nat)] 45));clear hb1)
   |(go_at_call 8;(with_reducible refine(hbd _).mono ?_);rintro e w2 ⟨rfl,hb2⟩;have L2:=Lib.hid (L1.out.trans (hb2.mono L1.out.size));clear hb2))
  exact HP.out false _ hO L2.out
 |ok ps=>
  rw [hj] at hj1 hO;have hbd:=fun w=>ZT 0 0 rfl w;simp only at hj1;by_cases h1:ps.length=1
  · obtain⟨x,rfl⟩:∃x,ps=[x]:=List.length_eq_one_iff.1 h1;have hO2:Za0 p=(p.fl&&&2==2&&ZdW.isPrefixOf x):=hO;have hpf:∀w,Calls Tryz.prog 38 #[.string (B x),.string ⟨#[1,118,111,114,98,105,115]⟩] w fun e w'=>e= .returned (.bool (ZdW.isPrefixOf x))∧w=w':=fun w=>(Tryz.strings_HasPrefix (B x) _ w).mono fun e w' h=>⟨by rw [h.1,Zbw];rfl,h.2.symm⟩
    generalize ZdW.isPrefixOf x=b2 at*;cases hb:(p.fl&&&2==2) with
    |false=>
     rw [hb] at hhs hO2;have HQ:=Lib.hid hO2;clear hO hO2 hj hb;go_enter Tryz.func50,Tryz.ntmps50
     go_wp2_with (first
      |(go_at_call 112;(with_reducible refine hj1.mono ?_);rintro e w1 ⟨hb1,v,rfl,hrv⟩;obtain⟨A1,c1,hv1,hc1⟩:=hrv.len;subst hv1;have L1:=Lib.hid ((L0.out.trans (hb1.mono L0.out.size)).alloc (Nat.le_trans L0.out.size hb1.size) (.cells #[.int .i64 0,.int .i64 0] 45));have P1:=Lib.hid ((PB.out.below hb1).alloc (.cells #[.int .i64 0,.int .i64 0] 45));clear hb1 hrv)
      |(go_at_call 8;(with_reducible refine(hbd _).mono ?_);rintro e w2 ⟨rfl,hb2⟩;have L2:=Lib.hid (L1.out.trans (hb2.mono L1.out.size));have P2:=Lib.hid (P1.out.below hb2);obtain⟨p0,p1,p2,p3,p4,p5⟩:=P2.out.six;have pl:=P2.out.lt;clear hb2)
      |(go_at_call 77;(with_reducible refine(hhs _ _ _ _).mono ?_);rintro e w3 ⟨rfl,hb3⟩;have L3:=Lib.hid (L2.out.trans (hb3.mono L2.out.size));clear hb3))
     exact HP.out false _ HQ.out L3.out
    |true=>
     rw [hb,Bool.true_and] at hO2;rw [hb] at hhs;have HQ:=Lib.hid hO2;clear hO hO2 hj hb;go_enter Tryz.func50,Tryz.ntmps50
     go_wp2_with (first
      |(go_at_call 112;(with_reducible refine hj1.mono ?_);rintro e w1 ⟨hb1,v,rfl,hrv⟩;rcases hrv with⟨h0,_⟩|⟨bk,c1,h0,rfl,hc1,hc2,hc3,hc4⟩;(first|(exact absurd h0 (by simp))|skip);have X1:Hid ((w1.alloc (.cells #[.int .i64 0,.int .i64 0] 45)).cell? ⟨bk,0,none⟩=some (.string (B x))):=Lib.hid ((((Below.refl _ w1).alloc (Nat.le_refl _) _).cell (p:=⟨bk,0,none⟩) hc3).trans (hc4 0 _ rfl));have L1:=Lib.hid ((L0.out.trans (hb1.mono L0.out.size)).alloc (Nat.le_trans L0.out.size hb1.size) (.cells #[.int .i64 0,.int .i64 0] 45));have P1:=Lib.hid ((PB.out.below hb1).alloc (.cells #[.int .i64 0,.int .i64 0] 45));have hbk:bk<(w1.alloc (.cells #[.int .i64 0,.int .i64 0] 45)).heap.size:=(by simp;omega);clear hb1)
      |(go_at_call 8;(with_reducible refine(hbd _).mono ?_);rintro e w2 ⟨rfl,hb2⟩;have L2:=Lib.hid (L1.out.trans (hb2.mono L1.out.size));have P2:=Lib.hid (P1.out.below hb2);have X2:=Lib.hid ((hb2.cell (p:=⟨bk,0,none⟩) hbk).trans X1.out);have hbk2:=Nat.lt_of_lt_of_le hbk hb2.size;obtain⟨p0,p1,p2,p3,p4,p5⟩:=P2.out.six;have pl:=P2.out.lt;clear hb2)
      |(go_at_call 77;(with_reducible refine(hhs _ _ _ _).mono ?_);rintro e w3 ⟨rfl,hb3⟩;have L3:=Lib.hid (L2.out.trans (hb3.mono L2.out.size));have X3:=(hb3.cell (p:=⟨bk,0,none⟩) hbk2).trans X2.out;have hbk3:=Nat.lt_of_lt_of_le hbk2 hb3.size;clear hb3)
      |(go_at_call 38;(with_reducible refine(hpf _).mono ?_);rintro e w4 ⟨rfl,rfl⟩))
     exact HP.out b2 _ HQ.out L3.out
  · have HQ:Hid (Za0 p=false):=Lib.hid (by
     rw [hO];split
     · next h=>injection h with h;rw [h] at h1;exact absurd rfl h1
     · rfl)
    have hne:((ps.length:Int)==1)=false:=by rw [beq_eq_false_iff_ne];omega
    have hne2:((ps.length:Int) !=1)=true:=by rw [bne,hne];rfl
    clear hO hj hhs;go_enter Tryz.func50,Tryz.ntmps50
    go_wp2_with (first
     |(go_at_call 112;(with_reducible refine hj1.mono ?_);rintro e w1 ⟨hb1,v,rfl,hrv⟩;obtain⟨A1,c1,hv1,hc1⟩:=hrv.len;subst hv1;have L1:=Lib.hid ((L0.out.trans (hb1.mono L0.out.size)).alloc (Nat.le_trans L0.out.size hb1.size) (.cells #[.int .i64 0,.int .i64 0] 45));clear hb1 hrv)
     |(go_at_call 8;(with_reducible refine(hbd _).mono ?_);rintro e w2 ⟨rfl,hb2⟩;have L2:=Lib.hid (L1.out.trans (hb2.mono L1.out.size));clear hb2))
    exact HP.out false _ HQ.out L2.out
theorem ZlM (ad:Addr)(c:Nat)(l:List Pg)(hn:l.length≤1000000)(w:World)(h:RdN 6 pgL w w.heap.size (some ad) l):
 Calls Tryz.prog 56 #[.slice (some ad) l.length c] w fun e w'=>∃v,e= .returned v∧ZZ pgL w.heap.size w' v l∧Below w.heap.size w w':=by
 generalize hP:(fun(e:Ending) (w':World)=>∃v,e= .returned v∧ZZ pgL w.heap.size w' v l∧Below w.heap.size w w')=P;have HP:Hid (∀v w',ZZ pgL w.heap.size w' v l→Below w.heap.size w w'→P (.returned v) w'):=Lib.hid fun v w' h1 h2=>by rw [←hP];exact⟨v,rfl,h1,h2⟩
 have HR:=Lib.hid h;have hq:∀w:World,(binOp .eql 34 (.slice (some ad) l.length c) (.slice none 0 0)).run Tryz.prog w= .ok (.bool false) w:=fun w=>by kernel_rfl
 clear hP h;go_enter Tryz.func56,Tryz.ntmps56
 have O0:Hid ((w.alloc (.cells #[] 27)).ownsRow w.heap.size 27 6 (.slice (some ⟨w.heap.size,0,none⟩) 0 0) ([]:List Pg).length (([]:List Pg).flatMap pgL)):=Lib.hid (World.ownsRow_lit (base:=w.heap.size) (e:=27) (size:=6) w #[] 0 (Nat.le_refl _) (by decide) rfl);have hb0:Below w.heap.size w (w.alloc (.cells #[] 27)):=(Below.refl _ w).alloc (Nat.le_refl _) _;have HB0:=Lib.hid hb0;have hz0:w.heap.size≤(w.alloc (.cells #[] 27)).heap.size:=hb0.size;have hrd:=HR.out.below hb0;have HNEW:Hid (∀j u,(l.flatMap pgL)[j]? =some u→(w.alloc (.cells #[] 27)).cell? (ad.add j)=some u):=Lib.hid fun j u hu=>by
  obtain⟨ad2,hA,_,hc⟩:=hrd.2 (by
   have:=(List.getElem?_eq_some_iff.1 hu).1;rw [ZgT] at this;omega)
  obtain rfl:ad=ad2:=Option.some.inj hA;exact hc j u hu
 clear hb0 hrd;go_wp2_with (at_builtin;refine Zm9 rfl _ _ rfl w.heap.size (.slice (some ⟨w.heap.size,0,none⟩) 0 0) [] l rfl (w.alloc (.cells #[] 27)) ad c O0.out hz0 (by simp) (by omega) rfl HNEW.out ?_;intro v6 w6 HO6 hb6 hg6;have H6:=Lib.hid (HB0.out.trans hb6);clear hb6 hg6)
 refine HP.out v6 _ ?_ H6.out;have:=HO6.out;rw [List.nil_append] at this;exact ZZ.of_own rfl this
def ZhZ (w:World)(ps:List (List UInt8))(k:Nat)(e:Ending)(w':World):Prop:=∃v,e= .returned (.tuple #[v,.int .i64 (k:Nat),.agg #[.int .i64 0,.int .i64 0]])∧Zg (fun y=>[sV y]) w.heap.size w' v ps∧Below w.heap.size w w'
theorem Zmh (FB:ByteArray)(ad:Addr)(c:Nat)(l:List Pg)(v7:Value)(k:Nat)(a b:List UInt8)(hk:ZaN 0 1 (l.drop 1)=some k)(hk1:1≤k)(hkl:k+1≤l.length)(hlc:l.length≤c)(hj:ZI false [] 0 ((l.drop 1).take k)= .ok [a,b])(hnx:∀p,l[k+1]? =some p→(p.fl&&&1==1)=false)
 (hn:l.length≤50000) (hf:∀p∈l,PgFit p) (w:World) (h:RdN 6 pgL w w.heap.size (some ad) l):
 Calls Tryz.prog 51 #[.string FB,.slice (some ad) l.length c,v7] w (ZhZ w [a,b] k):=by
 have hse:=fun(wx:World) (hb:Below w.heap.size w wx)=>ZmK (some ad) c l (by omega) (fun p hp=>(hf p hp).laces) wx ((h.below hb).more hb.size);rw [hk] at hse;have hjn:=fun(wx:World) (hb:Below w.heap.size w wx) cc=>ZhM (some (ad.add (1*6))) cc ((l.drop 1).take k) (by simp;omega) (fun p hp=>hf p (List.mem_of_mem_drop (List.mem_of_mem_take hp))) wx (((h.sub Zb2 1 k).below hb).more hb.size);have hlen:((l.drop 1).take k).length=k:=by rw [List.length_take,List.length_drop];omega
 rw [hj,hlen,show ad.add (1*6)=⟨ad.block,ad.off+6,none⟩ from rfl] at hjn;unfold Zcu at hjn;simp only at hjn;have hse2:∀(wx:World),Below w.heap.size w wx→Calls Tryz.prog 113 #[.slice (some ad) l.length c] wx fun e w'=>e= .returned (.int .i64 (k:Nat))∧wx=w':=hse;have hbd:=fun w=>ZT 0 0 rfl w;generalize hP:ZhZ w [a,b] k=P;have HP:Hid (∀v w',Zg (fun y=>[sV y]) w.heap.size w' v [a,b]→Below w.heap.size w w'→P (.returned (.tuple #[v,.int .i64 (k:Nat),.agg #[.int .i64 0,.int .i64 0]])) w'):=Lib.hid fun v w' h1 h2=>by rw [←hP];exact⟨v,rfl,h1,h2⟩
 have R0:=Lib.hid (Bx.new w #[.int .i64 0,.int .i64 0] 45);have L0:=Lib.hid ((Below.refl _ w).alloc (Nat.le_refl _) (.cells #[.int .i64 0,.int .i64 0] 45));have HR:=Lib.hid h;have HX:=Lib.hid hnx;have w1:IntKind.i64.wrap ((k:Int)+1)=(k:Int)+1:=by rw [IntKind.wrap_i64];omega
 have hq1:(1:Int)≤(k:Int)+1:=by omega
 have hq2:(k:Int)+1≤(c:Int):=by omega
 clear hP h hk hj hnx hf hse hlen;go_enter Tryz.func51,Tryz.ntmps51
 go_upto_region 5 with(first
  |(go_at_call 113;(with_reducible refine(hse2 _ L0.out).mono ?_);rintro e w2 ⟨rfl,rfl⟩)
  |(go_at_call 112;(with_reducible refine(hjn _ L0.out _).mono ?_);rintro e w3 ⟨hb3,v,rfl,hrv⟩;have L3:=Lib.hid ((L0.out.trans (hb3.mono L0.out.size)).alloc (Nat.le_trans L0.out.size hb3.size) (.cells #[.int .i64 0,.int .i64 0] 45));have R3:=Lib.hid ((R0.out.below hb3).alloc (.cells #[.int .i64 0,.int .i64 0] 45));have V3:=Lib.hid ((hrv.low (by simp:w.heap.size+1≤_)).below ((Below.refl _ _).alloc (Nat.le_refl _) (.cells #[.int .i64 0,.int .i64 0] 45)));have B3:=Lib.hid (Bx.new w3 #[.int .i64 0,.int .i64 0] 45);clear hb3 hrv))
 have L3b:=Lib.hid L3.out.size;obtain⟨A1,c1,hv1,hc1⟩:=V3.out.len;subst hv1;have b0:=B3.out.cell 0;have b1:=B3.out.cell 1;have bl:=B3.out.lt;rw [show [a,b].length=2 from rfl] at*;go_upto_region 9 with(first
  |(go_at_call 8;(with_reducible refine(hbd _).mono ?_);rintro e w4 ⟨rfl,hb4⟩;first|(have L5:=Lib.hid (L4.out.trans (hb4.mono L4.out.size));have R5:=Lib.hid (R4.out.below hb4);have V5:=Lib.hid (V4.out.below hb4);clear hb4)|(have L4:=Lib.hid (L3.out.trans (hb4.mono L3.out.size));have R4:=Lib.hid (R3.out.below hb4);have V4:=Lib.hid (V3.out.below hb4);have B4:=Lib.hid (B3.out.below hb4);clear hb4 b0 b1 bl;have b0:=B4.out.cell 0;have b1:=B4.out.cell 1;have bl:=B4.out.lt)))
 obtain⟨q0,q1⟩:=R5.out.two;have qf:=R5.out.free;have ql:=R5.out.lt;have HEND:Hid (∀w',Below w4.heap.size w4 w'→Zg (fun y=>[sV y]) w.heap.size ((w'.setCell ⟨w.heap.size,0,none⟩ (.int .i64 0)).setCell ⟨w.heap.size,1,none⟩ (.int .i64 0)) (.slice A1 2 c1) [a,b]∧Bx ((w'.setCell ⟨w.heap.size,0,none⟩ (.int .i64 0)).setCell ⟨w.heap.size,1,none⟩ (.int .i64 0)) w.heap.size #[.int .i64 0,.int .i64 0] 45∧Below w.heap.size w ((w'.setCell ⟨w.heap.size,0,none⟩ (.int .i64 0)).setCell ⟨w.heap.size,1,none⟩ (.int .i64 0))):=Lib.hid fun w' hb=>
  ⟨(((V5.out.below hb).set (Nat.lt_succ_self _) 0 _).set (Nat.lt_succ_self _) 1 _).low (Nat.le_succ _),Za9 (R5.out.below hb) _ _,((L5.out.trans (hb.mono L5.out.size)).setCell (p:=⟨w.heap.size,0,none⟩) (Nat.le_refl _) _).setCell (p:=⟨w.heap.size,1,none⟩) (Nat.le_refl _) _⟩
 by_cases hnx:k+1<l.length
 · obtain⟨p,hk1⟩:∃p,l[k+1]? =some p:=⟨_,List.getElem?_eq_getElem hnx⟩
   have hhs:=fun x1 x2 x3 w=>ZcV p.fl 1 1 rfl x1 x2 x3 w;rw [HX.out p hk1] at hhs;obtain⟨ad2,hA2,hadb,y0,y1,y2,y3,y4,y5⟩:=(HR.out.below L5.out).page hk1;obtain rfl:ad=ad2:=Option.some.inj hA2;have hd1:(k:Int)+1<(l.length:Int):=by omega
   have hkk:((k:Int)+1).toNat=k+1:=by omega
   have hbl:ad.block<w4.heap.size:=Nat.lt_of_lt_of_le hadb L5.out.size;have hw2:IntKind.i64.wrap ((k:Int)+1)=((k+1:Nat):Int):=by rw [IntKind.wrap_i64];omega
   go_wp2_with (go_at_call 77;(with_reducible refine(hhs _ _ _ _).mono ?_);rintro e w6 ⟨rfl,hb6⟩;have F:=HEND.out _ hb6;have R6:=Lib.hid (R5.out.below hb6);clear q0 q1 qf ql;obtain⟨q0,q1⟩:=R6.out.two;have qf:=R6.out.free;have ql:=R6.out.lt)
   refine bodyPost_ret (Zg5 rfl _ _ w.heap.size _ _ _ _ _ _ rfl rfl rfl F.2.1 Tryz.underlying45 rfl (by kernel_rfl)) rfl ?_;exact HP.out _ _ F.1 F.2.2
 · have hd1:decide ((k:Int)+1<(l.length:Int))=false:=decide_eq_false (by omega);have hd2:¬((k:Int)+1<(l.length:Int)):=by omega
   have hd3:¬(k+1<l.length):=hnx;go_wp2_with fail
   have F:=HEND.out _ (Below.refl _ _);refine bodyPost_ret (Zg5 rfl _ _ w.heap.size _ _ _ _ _ _ rfl rfl rfl F.2.1 Tryz.underlying45 rfl (by kernel_rfl)) rfl ?_;exact HP.out _ _ F.1 F.2.2
def stV (p:Pg)(v:List UInt8)(vs:Int)(vn:Value)(setup:List UInt8)(vso:Value):Array Value:=#[.int .u8 p.fl.toNat,.int .u64 (p.pos:Nat),.int .u32 (p.ser:Nat),.int .u32 (p.num:Nat),.string (B p.laces),.string (B p.body),.string (B v),.int .i64 vs,vn,.string (B setup),vso]
def zSt:Array Value:=#[.int .u8 0,.int .u64 0,.int .u32 0,.int .u32 0,.string ⟨#[]⟩,.string ⟨#[]⟩,.string ⟨#[]⟩,.int .i64 0,.slice none 0 0,.string ⟨#[]⟩,.slice none 0 0]
theorem Zlf (p:Pg)(v:List UInt8)(vs:Int)(A A2:Option Addr)(n c n2 c2:Nat)(setup:List UInt8):(stV p v vs (.slice A n c) setup (.slice A2 n2 c2)).all (·.oneCell')=true:=by
 unfold stV;simp
 repeat (first|exact rfl|refine And.intro rfl ?_)
theorem ZjQ (x:Sx):0<(Zn x).length:=by
 unfold Zn ZaY;have hne:([Z4 x,x.setup].map fun p=>Zu p.length).flatten≠[]:=by simp [Zu]
 have hpos:=List.length_pos_iff.mpr hne;obtain⟨n,hn⟩:∃n,([Z4 x,x.setup].map fun p=>Zu p.length).flatten.length=n+1:=⟨_,(Nat.succ_pred_eq_of_pos hpos).symm⟩
 rw [hn,Zy,if_neg hne];simp
theorem Zm1 (x:Sx):(ZO x).length=1+(Zn x).length+x.sound.length:=by
 rw [ZbU,List.length_cons,List.length_append,Zc7];omega
theorem Zm2 {x:Sx} (h:CkS x):∀p,(ZO x)[(Zn x).length+1]? =some p→(p.fl&&&1==1)=false:=by
 intro p hp;rw [ZbU,List.getElem?_cons_succ,List.getElem?_append_right (Nat.le_refl _),Nat.sub_self] at hp;have hs:=h.snd;cases hx:x.sound with
 |nil=>rw [hx] at hp;simp [Zt] at hp
 |cons q r=>
  rw [hx] at hp hs;simp only [Zt,List.getElem?_cons_zero,Option.some.injEq] at hp;subst hp;exact Znp hs
theorem ZpO {B0:Nat} {w:World} {vl:Value} {ns:List Nx} (h:Zg ntV B0 w vl (ns.map Nx.nt)):Zg nxV B0 w vl (ns.map Nx.up):=by
 have e:∀l:List Nx,(l.map Nx.nt).flatMap ntV=(l.map Nx.up).flatMap nxV:=by
  intro l;induction l with
  |nil=>rfl
  |cons x r ih=>rw [List.map_cons,List.map_cons,List.flatMap_cons,List.flatMap_cons,ih];rfl
 unfold Zg at h⊢;rw [e,List.length_map,ne_eq,List.map_eq_nil_iff] at h;rw [List.length_map,ne_eq,List.map_eq_nil_iff];exact h
def Zem (w:World)(x:Sx)(e:Ending)(w':World):Prop:=∃vn vso,e= .returned (.tuple #[.agg (stV x.first x.v 7 vn x.setup vso),.agg #[.int .i64 0,.int .i64 0]])∧Zg nxV w.heap.size w' vn (x.ns.map Nx.up)∧ZZ pgL w.heap.size w' vso x.up.sound∧Below w.heap.size w w'
structure OgSt (w wx:World)(G:Nat)(OA:Array Value):Prop where
 o:Bx wx w.heap.size OA 39
 s:Bx wx (w.heap.size+1) zSt 36
 f:Bx wx (w.heap.size+1+1) #[.int .i64 0,.int .i64 0] 45
 g:Bx wx G #[.int .i64 0,.int .i64 0] 45
 low:Below w.heap.size w wx
 hG:w.heap.size+3≤G
theorem OgSt.below {w wx wy:World} {G:Nat} {OA:Array Value} (h:OgSt w wx G OA)(hb:Below wx.heap.size wx wy):OgSt w wy G OA:=⟨h.o.below hb,h.s.below hb,h.f.below hb,h.g.below hb,h.low.trans (hb.mono h.low.size),h.hG⟩
theorem OgSt.put2 {w wx:World} {G:Nat} {OA:Array Value} (h:OgSt w wx G OA):OgSt w ((wx.setCell ⟨G,0,none⟩ (.int .i64 0)).setCell ⟨G,1,none⟩ (.int .i64 0)) G OA:=
 ⟨(h.o.set (by have:=h.hG;omega) 0 _).set (by have:=h.hG;omega) 1 _,(h.s.set (by have:=h.hG;omega) 0 _).set (by have:=h.hG;omega) 1 _,(h.f.set (by have:=h.hG;omega) 0 _).set (by have:=h.hG;omega) 1 _,Za9 h.g _ _,(h.low.setCell (p:=⟨G,0,none⟩) (by have:=h.hG;show w.heap.size≤G;omega) _).setCell (p:=⟨G,1,none⟩) (by have:=h.hG;show w.heap.size≤G;omega) _,h.hG⟩
theorem RdN.head6 {w:World} {B0 bk:Nat} {l:List Pg} {p:Pg} (h:RdN 6 pgL w B0 (some ⟨bk,0,none⟩) l)(hh:l[0]? =some p):w.cell? ⟨bk,0,none⟩=some (.int .u8 p.fl.toNat)∧w.cell? ⟨bk,1,none⟩=some (.int .u64 (p.pos:Nat))∧w.cell? ⟨bk,2,none⟩=some (.int .u32 (p.ser:Nat))∧w.cell? ⟨bk,3,none⟩=some (.int .u32 (p.num:Nat))∧w.cell? ⟨bk,4,none⟩=some (.string (B p.laces))∧w.cell? ⟨bk,5,none⟩=some (.string (B p.body))∧bk<B0:=by
 obtain⟨ad,hA,hb,y0,y1,y2,y3,y4,y5⟩:=h.page hh;obtain rfl:(⟨bk,0,none⟩:Addr)=ad:=Option.some.inj hA;rw [addr0] at y1 y2 y3 y4 y5;exact⟨y0,y1,y2,y3,y4,y5,hb⟩
theorem Zmb (x:Sx)(hc:CkS x)(hl:LightO x)(ht:SxTy x)(kd bud:Int)(fb:Nat)(det:Bool)(hfb:fb≤9)(w:World)(hG:Grd w):
 Calls Tryz.prog 22 #[.string (B (prS x)),.agg #[.int .i64 kd,.int .i64 fb,.bool det,.int .i64 bud]] w (Zem w x):=by
 obtain⟨hs1,hs2,hs3,hs4⟩:=ZqB hc;have hlen:=ZfT hl;have hleq:=Zm1 x;have hmp:=ZjQ x;have hok:=ZfU hc ht;have hfit:∀p∈ZO x,PgFit p:=fun p hp=>(hok p hp).fit;have hprl:=ZgX hc hl ht;have hpg:∀w,Calls Tryz.prog 47 #[.string (B (prS x))] w (ZfH w (ZO x)):=fun w=>Zmg (ZO x) (by omega) hok (by show(prS x).length≤_;omega) w;have hst:=fun A c wx h=>ZmP A c (ZO x) x.first.ser hs1 ht.first.ser (by omega) wx h;have hop:∀w,Calls Tryz.prog 50 #[.agg (pgA x.first)] w fun e w'=>e= .returned (.bool true)∧Below w.heap.size w w':=fun w=>by
  have:=ZhW x.first (ZgS (Zke hc.opens) ht.first).fit w;rw [hc.opens] at this;exact this
 have hpr:=fun ad c v7 hlc w h=>Zmh (B (prS x)) ad c (ZO x) v7 (Zn x).length (Z4 x) x.setup hs2 hmp (by omega) hlc hs3 (Zm2 hc) (by omega) hfit w h;have hbd:=fun w=>ZT 0 0 rfl w;have hhead:(ZO x)[0]? =some x.first:=rfl;generalize hP:Zem w x=P;have HP:Hid (∀vn vso w',Zg nxV w.heap.size w' vn (x.ns.map Nx.up)→ZZ pgL w.heap.size w' vso x.up.sound→Below w.heap.size w w'→P (.returned (.tuple #[.agg (stV x.first x.v 7 vn x.setup vso),.agg #[.int .i64 0,.int .i64 0]])) w'):=Lib.hid fun vn vso w' h1 h2 h3=>by rw [←hP];exact⟨vn,vso,rfl,h1,h2,h3⟩
 clear hP;have O0:=((Bx.new w #[.int .i64 kd,.int .i64 fb,.bool det,.int .i64 bud] 39).alloc (.cells zSt 36)).alloc (.cells #[.int .i64 0,.int .i64 0] 45);have S0:=(Bx.new (w.alloc (.cells #[.int .i64 kd,.int .i64 fb,.bool det,.int .i64 bud] 39)) zSt 36).alloc (.cells #[.int .i64 0,.int .i64 0] 45);have F0:=Bx.new ((w.alloc (.cells #[.int .i64 kd,.int .i64 fb,.bool det,.int .i64 bud] 39)).alloc (.cells zSt 36)) #[.int .i64 0,.int .i64 0] 45;rw [World.size_alloc] at S0;rw [World.size_alloc,World.size_alloc] at F0;have L0:=(((Below.refl _ w).alloc (Nat.le_refl _) (.cells #[.int .i64 kd,.int .i64 fb,.bool det,.int .i64 bud] 39)).alloc (by simp) (.cells zSt 36)).alloc (by simp;omega) (.cells #[.int .i64 0,.int .i64 0] 45);have HO0:=Lib.hid O0;have HS0:=Lib.hid S0;have HF0:=Lib.hid F0;have HL0:=Lib.hid L0;have hz0:(((w.alloc (.cells #[.int .i64 kd,.int .i64 fb,.bool det,.int .i64 bud] 39)).alloc (.cells zSt 36)).alloc (.cells #[.int .i64 0,.int .i64 0] 45)).heap.size=w.heap.size+3:=by simp
 have HZ0:=Lib.hid hz0;clear O0 S0 F0 L0 hz0;unfold zSt at HO0 HS0 HF0 HL0 HZ0;generalize B (prS x)=FB at*;go_enter Tryz.func22,Tryz.ntmps22
 go_upto_region 2 with(go_at_call 47;(with_reducible refine(hpg _).mono ?_);clear hpg;rintro e w1 ⟨v5,v6,rfl,hr1,hb1⟩;have R1:=Lib.hid hr1;have BB1:=Lib.hid hb1;clear hr1 hb1)
 rcases R1.out with⟨h0,_⟩|⟨bk,c5,h0,rfl,hlc,hge,hlt,hcl⟩
 · rw [h0] at hhead;cases hhead
 have SG:Hid (OgSt w (w1.alloc (.cells #[.int .i64 0,.int .i64 0] 45)) w1.heap.size #[.int .i64 kd,.int .i64 fb,.bool det,.int .i64 bud]):=Lib.hid (OgSt.mk ((HO0.out.below BB1.out).alloc _) ((HS0.out.below BB1.out).alloc _) ((HF0.out.below BB1.out).alloc _) (Bx.new w1 _ _) (by
  have h1:=HL0.out.trans (BB1.out.mono HL0.out.size);exact h1.alloc h1.size _) (by rw [←HZ0.out];exact BB1.out.size))
 have PG:Hid (RdN 6 pgL (w1.alloc (.cells #[.int .i64 0,.int .i64 0] 45)) w1.heap.size (some ⟨bk,0,none⟩) (ZO x)):=Lib.hid ((RdN.of_rows1 Zb2 R1.out).below ((Below.refl _ _).alloc (Nat.le_refl _) _));generalize hW1:w1.alloc (.cells #[.int .i64 0,.int .i64 0] 45)=W1 at*;have hbk:bk<W1.heap.size:=by rw [←hW1,World.size_alloc];omega
 have hGW:w1.heap.size<W1.heap.size:=by rw [←hW1,World.size_alloc];omega
 generalize w1.heap.size=G at*;have LB0:=Lib.hid (Below.refl W1.heap.size W1);have KY:Hid (∀wx,Below W1.heap.size W1 wx→wx.cell? ⟨bk,0,none⟩=some (.int .u8 x.first.fl.toNat)∧wx.cell? ⟨bk,1,none⟩=some (.int .u64 (x.first.pos:Nat))∧wx.cell? ⟨bk,2,none⟩=some (.int .u32 (x.first.ser:Nat))∧wx.cell? ⟨bk,3,none⟩=some (.int .u32 (x.first.num:Nat))∧wx.cell? ⟨bk,4,none⟩=some (.string (B x.first.laces))∧wx.cell? ⟨bk,5,none⟩=some (.string (B x.first.body))∧bk<wx.heap.size):=Lib.hid fun wx hb=>by
  obtain⟨a0,a1,a2,a3,a4,a5,a6⟩:=(PG.out.below (hb.mono (Nat.le_of_lt hGW))).head6 hhead;exact⟨a0,a1,a2,a3,a4,a5,by have:=hb.size;omega⟩
 have g0:=SG.out.g.cell 0;have g1:=SG.out.g.cell 1;obtain⟨y0,y1,y2,y3,y4,y5,yl⟩:=KY.out _ LB0.out;have hpos:0<(ZO x).length:=by omega
 have hposI:(0:Int)<((ZO x).length:Int):=by omega
 have hne0:(((ZO x).length:Int)==0)=false:=by rw [beq_eq_false_iff_ne];omega
 have HLQ:=Lib.hid hleq;have HBK:Hid (w.heap.size+3≤bk):=Lib.hid (by rw [←HZ0.out];exact hge);have HS4:=Lib.hid hs4;clear hs1 hs2 hs3 hs4 hleq hok hfit hprl R1 BB1 HO0 HS0 HF0 HL0 HZ0 hcl hge hlt hW1 h0;unfold pgA at hop;generalize ZO x=l at*;go_upto_region 9 with(first
  |(go_at_call 8;(with_reducible refine(hbd _).mono ?_);rintro e w2 ⟨rfl,hb2⟩;have LB2:=Lib.hid (LB0.out.trans (hb2.mono LB0.out.size));clear hb2)
  |(go_at_call 48;(with_reducible refine(hst _ _ _ ((PG.out.below (LB2.out.mono (Nat.le_of_lt hGW))).more (Nat.le_trans (Nat.le_of_lt hGW) LB2.out.size))).mono ?_);rintro e w3 ⟨rfl,hb3⟩;have LB3:=Lib.hid (LB2.out.trans (hb3.mono LB2.out.size));clear hb3 y0 y1 y2 y3 y4 y5 yl;obtain⟨y0,y1,y2,y3,y4,y5,yl⟩:=KY.out _ LB3.out)
  |(go_at_call 50;(with_reducible refine(hop _).mono ?_);rintro e w4 ⟨rfl,hb4⟩;have LB4:=Lib.hid (LB3.out.trans (hb4.mono LB3.out.size));clear hb4 y0 y1 y2 y3 y4 y5 yl g0 g1))
 have gg0:=(SG.out.g.below LB4.out).cell 0;have gg1:=(SG.out.g.below LB4.out).cell 1;have ggf:=(SG.out.g.below LB4.out).free;have ggl:=(SG.out.g.below LB4.out).lt;go_upto_region 10 with(go_at_call 51;(with_reducible refine(hpr _ _ _ hlc _ ((PG.out.below (LB4.out.mono (Nat.le_of_lt hGW))).more (Nat.le_trans (Nat.le_of_lt hGW) LB4.out.size))).mono ?_);rintro e w5 ⟨v10,rfl,hr5,hb5⟩;have R5:=Lib.hid hr5;have LB5:=Lib.hid (LB4.out.trans (hb5.mono LB4.out.size));clear hr5 hb5 gg0 gg1 ggf ggl;have gg0:=(SG.out.g.below LB5.out).cell 0;have gg1:=(SG.out.g.below LB5.out).cell 1;have ggf:=(SG.out.g.below LB5.out).free;have ggl:=(SG.out.g.below LB5.out).lt)
 have S5:=Lib.hid (SG.out.below LB5.out).put2;have PG5:Hid (RdN 6 pgL ((w5.setCell ⟨G,0,none⟩ (.int .i64 0)).setCell ⟨G,1,none⟩ (.int .i64 0)) G (some ⟨bk,0,none⟩) l):=Lib.hid (PG.out.below (((LB5.out.mono (Nat.le_of_lt hGW)).setCell (p:=⟨G,0,none⟩) (Nat.le_refl _) _).setCell (p:=⟨G,1,none⟩) (Nat.le_refl _) _));have R6:=Lib.hid ((R5.out.set (g:=G) (Nat.lt_of_lt_of_le hGW LB4.out.size) 0 (.int .i64 0)).set (g:=G) (Nat.lt_of_lt_of_le hGW LB4.out.size) 1 (.int .i64 0));have LB4s:=Lib.hid LB4.out.size;clear R5 LB5 LB4 LB3 LB2 LB0 gg0 gg1 ggf ggl KY SG PG hst hpr hop;generalize (w5.setCell ⟨G,0,none⟩ (.int .i64 0)).setCell ⟨G,1,none⟩ (.int .i64 0)=W5 at*;have HG5:Hid (G≤w4.heap.size):=Lib.hid (Nat.le_trans (Nat.le_of_lt hGW) LB4s.out);rcases R6.out with⟨h0,_⟩|⟨bk2,c10,h0,rfl,hlc2,hge,hlt,hcl⟩
 · cases h0
 have x0:W5.cell? ⟨bk2,0,none⟩=some (.string (B (Z4 x))):=hcl 0 _ rfl;have x1:W5.cell? ⟨bk2,1,none⟩=some (.string (B x.setup)):=hcl 1 _ rfl;have X0:=Lib.hid x0;have X1:=Lib.hid x1;have HLT:=Lib.hid hlt;rw [show [Z4 x,x.setup].length=2 from rfl] at*;have HBK2:Hid (w.heap.size+3≤bk2):=Lib.hid (by have:=S5.out.hG;have:=HG5.out;omega);clear x1 hcl h0 R6 hge;have hbl:=Zf3 hl;have hrd:=fun w=>Zh8 (Z4 x) (by omega) w;have hm1:(⟨Z4 x,0,0,0,0⟩:InS)=InS.mk' 0 [] (Zad++ZC true (bkX x.v x.ns)):=rfl;rw [hm1] at hrd;have hwt:∀K w,InAt w K (InS.mk' 0 [] (Zad++ZC true (bkX x.v x.ns)))→Calls Tryz.prog 53 #[.pointer (some ⟨K,0,none⟩),.string ⟨#[3,118,111,114,98,105,115]⟩] w fun e w'=>(∃b,e= .returned (.bool b))∧InAt w' K (InS.mk' 0 Zad (ZC true (bkX x.v x.ns)))∧But K w.heap.size w w':=fun K w h=>(Zes K _ Zad (by decide) w h).mono fun e w' q=>⟨⟨_,q.1⟩,by
  have:=q.2.1;rw [InS.want_mk] at this;exact this,q.2.2⟩
 have hbk3:=Znk (lfC fb det) true (bkX x.v x.ns) (bk_ok hc.blk (by have:=hl.vend;omega) (fun n hn=>by have:=hl.note n hn;omega) fb det) 0 Zad;have hcp:=fun K w hG h=>ZlF K (InS.mk' 0 Zad (ZC true (bkX x.v x.ns))) _ true kd bud fb det hfb _ hbk3 (by
  have e:(InS.mk' 0 Zad (ZC true (bkX x.v x.ns))).t=Z4 x:=rfl;rw [e];omega) w hG h
 have hfa:=fun K w h=>ZbQ K (InS.mk' 0 (Zad++ZC true (bkX x.v x.ns)) []) w h;rw [show(InS.mk' 0 (Zad++ZC true (bkX x.v x.ns)) []).e=0 from rfl,show(InS.mk' 0 (Zad++ZC true (bkX x.v x.ns)) []).a=0 from rfl] at hfa;unfold Zfw at hcp;have hcp2:∀K w,Grd w→InAt w K (InS.mk' 0 Zad (ZC true (bkX x.v x.ns)))→Calls Tryz.prog 54 #[.pointer (some ⟨K,0,none⟩),.bool true,.agg #[.int .i64 kd,.int .i64 fb,.bool det,.int .i64 bud]] w fun e w'=>∃vl,e= .returned (.tuple #[.agg #[.string (B x.v),.int .i64 7,vl],.bool true])∧Zg ntV w.heap.size w' vl (x.ns.map Nx.nt)∧InAt w' K (InS.mk' 0 (Zad++ZC true (bkX x.v x.ns)) [])∧But K w.heap.size w w':=hcp;clear hcp;have hpf:∀w,Calls Tryz.prog 38 #[.string (B x.setup),.string ⟨#[5,118,111,114,98,105,115]⟩] w fun e w'=>e= .returned (.bool true)∧w=w':=fun w=>(Tryz.strings_HasPrefix (B x.setup) _ w).mono fun e w' h=>⟨by rw [h.1,Zbw,←hc.set];rfl,h.2.symm⟩
 generalize InS.mk' 0 [] (Zad++ZC true (bkX x.v x.ns))=s0 at*;generalize InS.mk' 0 Zad (ZC true (bkX x.v x.ns))=s1 at*;generalize InS.mk' 0 (Zad++ZC true (bkX x.v x.ns)) []=s2 at*;have g0:=S5.out.g.cell 0;have g1:=S5.out.g.cell 1;have LC0:=Lib.hid (Below.refl W5.heap.size W5);clear hbk3 hm1 hbl;go_upto_region 20 with(first
  |(go_at_call 52;(with_reducible refine(hrd _).mono ?_);rintro e w2 ⟨K,rfl,hi,hb2,hk1,hk2⟩;have HK:=Lib.hid (Nat.le_trans LC1.out.size hk1);have LC2:=Lib.hid (LC1.out.trans (hb2.mono LC1.out.size));have I2:=Lib.hid hi;clear hi hb2 hk1 hk2 x0)
  |(go_at_call 53;(with_reducible refine(hwt _ _ I2.out).mono ?_);rintro e w3 ⟨⟨bw,rfl⟩,hi,hb3⟩;have LC3:=Lib.hid (LC2.out.trans ((hb3.mono LC2.out.size).below HK.out));have I3:=Lib.hid hi;have G3:=Lib.hid ((hG.below S5.out.low).below LC3.out);have o4:=(S5.out.o.below LC3.out).four;clear hi hb3)
  |(go_at_call 54;(with_reducible refine(hcp2 _ _ G3.out I3.out).mono ?_);rintro e w4 ⟨vl,rfl,hr,hi,hb4⟩;obtain⟨A4,n4,c4,hv4⟩:=Zb5 hr;subst hv4;have LC4:=Lib.hid ((LC3.out.trans ((hb4.mono LC3.out.size).below HK.out)).alloc (Nat.le_trans LC3.out.size hb4.size) (.cells #[.string (B x.v),.int .i64 7,.slice A4 n4 c4] 33));have I4:=Lib.hid (hi.alloc (.cells #[.string (B x.v),.int .i64 7,.slice A4 n4 c4] 33));have N4:=Lib.hid (((ZpO hr).low LC3.out.size).below ((Below.refl _ _).alloc (Nat.le_refl _) (.cells #[.string (B x.v),.int .i64 7,.slice A4 n4 c4] 33)));have HW4:Hid (W5.heap.size≤w4.heap.size):=Lib.hid (Nat.le_trans LC3.out.size hb4.size);have X4:=Lib.hid (Bx.new w4 #[.string (B x.v),.int .i64 7,.slice A4 n4 c4] 33);clear hi hb4 hr o4)
  |(go_at_call 55;(with_reducible refine(hfa _ _ I4.out).mono ?_);rintro e w5b ⟨rfl,hb5⟩;have LC5:=Lib.hid ((LC4.out.trans (hb5.mono LC4.out.size)).alloc (Nat.le_trans LC4.out.size hb5.size) (.cells #[.int .i64 0,.int .i64 0] 45));have N5:=Lib.hid ((N4.out.below hb5).below ((Below.refl _ _).alloc (Nat.le_refl _) (.cells #[.int .i64 0,.int .i64 0] 45)));have X5:=Lib.hid ((X4.out.below hb5).alloc (.cells #[.int .i64 0,.int .i64 0] 45));clear hb5)
  |(go_at_call 8;(with_reducible refine(hbd _).mono ?_);rintro e w6 ⟨rfl,hb6⟩;first|(have LC6:=Lib.hid (LC5.out.trans (hb6.mono LC5.out.size));have N6:=Lib.hid (N5.out.below hb6);have X6:=Lib.hid (X5.out.below hb6);have x1:=(LC6.out.cell (p:=⟨bk2,1,none⟩) HLT.out).trans X1.out;have xl:=Nat.lt_of_lt_of_le HLT.out LC6.out.size;clear hb6)|(have LC1:=Lib.hid (LC0.out.trans (hb6.mono LC0.out.size));clear hb6 x0;have x0:=(LC1.out.cell (p:=⟨bk2,0,none⟩) HLT.out).trans X0.out;have xl:=Nat.lt_of_lt_of_le HLT.out LC1.out.size))
  |(go_at_call 38;(with_reducible refine(hpf _).mono ?_);rintro e w7 ⟨rfl,rfl⟩))
 have hle1:(Zn x).length+1≤l.length:=by have:=HLQ.out;omega
 have hle2:l.length≤c5:=hlc;have hsl:x.up.sound.length=l.length - ((Zn x).length+1):=by
  have h4:=congrArg List.length HS4.out;rw [List.length_drop] at h4;show(Zt (1+(Zn x).length) x.sound).length=_
  omega
 obtain⟨ad,hif,hrd2⟩:∃ad:Addr,(if c5=(Zn x).length+1 then some (⟨bk,0,none⟩:Addr) else some ⟨bk,((Zn x).length+1)*6,none⟩)=some ad∧RdN 6 pgL W5 G (some ad) x.up.sound:=by
  by_cases hc5:c5=(Zn x).length+1
  · have h0:x.up.sound=[]:=List.length_eq_zero_iff.1 (by omega);refine⟨_,by rw [if_pos hc5],?_⟩;rw [h0];exact⟨rfl,fun h=>absurd h (by simp)⟩
  · have h1:=PG5.out.sub Zb2 ((Zn x).length+1) l.length;rw [List.take_of_length_le (by rw [List.length_drop];omega),show l.drop ((Zn x).length+1)=x.up.sound by rw [Nat.add_comm];exact HS4.out] at h1;have h2:(⟨bk,0,none⟩:Addr).add (((Zn x).length+1)*6)=⟨bk,((Zn x).length+1)*6,none⟩:=by
     unfold Addr.add;rw [if_neg (by omega)];simp
    rw [h2] at h1;exact⟨_,by rw [if_neg hc5],h1⟩
 have HRD:=Lib.hid hrd2;have hcl:∀wx,Below G W5 wx→∀cc,Calls Tryz.prog 56 #[.slice (some ad) (l.length - ((Zn x).length+1)) cc] wx fun e w'=>∃v,e= .returned v∧ZZ pgL wx.heap.size w' v x.up.sound∧Below wx.heap.size wx w':=fun wx hb cc=>by
  have hG:G<W5.heap.size:=S5.out.g.lt;have h5:=ZlM _ cc x.up.sound (by omega) wx ((HRD.out.below hb).more (by have:=hb.size;omega));rw [hsl] at h5;exact h5
 have hA1:(0:Int)≤((Zn x).length:Int)+1:=by omega
 have hA2:((Zn x).length:Int)+1≤(l.length:Int):=by omega
 clear hrd2 hsl;have hGe:=S5.out.hG;have hkw:IntKind.i64.wrap (((Zn x).length:Int)+1)=(((Zn x).length+1:Nat):Int):=by rw [IntKind.wrap_i64];omega
 obtain⟨z0,z1,z2,z3,z4,z5,zl⟩:=(PG5.out.below (LC6.out.mono (Nat.le_of_lt S5.out.g.lt))).head6 hhead;have KEEP:Hid (∀wx:World,(∀q,w.heap.size+3≤q→q<w6.heap.size→wx.heap[q]? =w6.heap[q]?)→wx.cell? ⟨bk,0,none⟩=some (.int .u8 x.first.fl.toNat)∧wx.cell? ⟨bk,1,none⟩=some (.int .u64 (x.first.pos:Nat))∧wx.cell? ⟨bk,2,none⟩=some (.int .u32 (x.first.ser:Nat))∧wx.cell? ⟨bk,3,none⟩=some (.int .u32 (x.first.num:Nat))∧wx.cell? ⟨bk,4,none⟩=some (.string (B x.first.laces))∧wx.cell? ⟨bk,5,none⟩=some (.string (B x.first.body))∧wx.cell? ⟨w4.heap.size,0,none⟩=some (.string (B x.v))∧wx.cell? ⟨w4.heap.size,1,none⟩=some (.int .i64 7)∧wx.cell? ⟨w4.heap.size,2,none⟩=some (.slice A4 n4 c4)∧wx.cell? ⟨bk2,1,none⟩=some (.string (B x.setup))):=Lib.hid fun wx hq=>by
  have hc6:∀(b j:Nat),w.heap.size+3≤b→b<w6.heap.size→wx.cell? ⟨b,j,none⟩=w6.cell? ⟨b,j,none⟩:=fun b j h1 h2=>by
   simp only [World.cell?,hq b h1 h2]
  have hb1:w.heap.size+3≤bk:=HBK.out;have hb2:w.heap.size+3≤bk2:=HBK2.out;have hbk6:bk<w6.heap.size:=by have:=S5.out.g.lt;have:=LC6.out.size;omega
  have hb3:w.heap.size+3≤w4.heap.size:=by have:=HW4.out;omega
  rw [hc6 bk 0 hb1 hbk6,hc6 bk 1 hb1 hbk6,hc6 bk 2 hb1 hbk6,hc6 bk 3 hb1 hbk6,hc6 bk 4 hb1 hbk6,hc6 bk 5 hb1 hbk6,hc6 w4.heap.size 0 hb3 X6.out.lt,hc6 w4.heap.size 1 hb3 X6.out.lt,hc6 w4.heap.size 2 hb3 X6.out.lt,hc6 bk2 1 hb2 xl];exact⟨z0,z1,z2,z3,z4,z5,X6.out.cell 0,X6.out.cell 1,X6.out.cell 2,x1⟩
 refine ZbM (fun w'=>w'.cell? ⟨bk,0,none⟩=some (.int .u8 x.first.fl.toNat)∧w'.cell? ⟨bk,1,none⟩=some (.int .u64 (x.first.pos:Nat))∧w'.cell? ⟨bk,2,none⟩=some (.int .u32 (x.first.ser:Nat))∧w'.cell? ⟨bk,3,none⟩=some (.int .u32 (x.first.num:Nat))∧w'.cell? ⟨bk,4,none⟩=some (.string (B x.first.laces))∧w'.cell? ⟨bk,5,none⟩=some (.string (B x.first.body))∧w'.cell? ⟨w4.heap.size,0,none⟩=some (.string (B x.v))∧w'.cell? ⟨w4.heap.size,1,none⟩=some (.int .i64 7)∧w'.cell? ⟨w4.heap.size,2,none⟩=some (.slice A4 n4 c4)∧w'.cell? ⟨bk2,1,none⟩=some (.string (B x.setup))) [(0,true),(1,true),(2,true),(3,true),(4,true),(5,true),(6,true),(7,true),(8,true),(9,true),(10,true),(13,true),(11,false),(12,true),(14,false),(15,false)] (by kernel_rfl) (by kernel_rfl) (by kernel_rfl) (Nat.le_of_ble_eq_true rfl) (fun _ _ d _ _ h=>by cases d<;>exact h) (KEEP.out _ fun q _ _=>rfl) ?_
 iterate 12 (refine' ZW rfl (by rfl) _ (fun w' hSw=>_) _;rotate_left;(obtain⟨s0,s1,s2,s3,s4,s5,s6,s7,s8,s9⟩:=hSw;go_simp;try with_reducible rfl);try simp only [Act.put,List.setIfInBounds_toArray,List.set_cons_zero,List.set_cons_succ])
 refine Zac rfl (by rfl) (fun KK hKK=> ?_)
 go_simp
 have LD:Below G W5 w6.drew:=below_drewN (LC6.out.mono (Nat.le_of_lt S5.out.g.lt)) 1;refine(hcl _ LD _).mono ?_;rintro e w7 ⟨v,rfl,hse,hb7⟩;obtain⟨A7,c7,hv7⟩:=hse.sl;subst hv7;have hb67:Below w6.heap.size w6 w7:=(below_drewN (Below.refl w6.heap.size w6) 1:Below w6.heap.size w6 w6.drew).trans hb7;have S7:=Lib.hid ((S5.out.below LC6.out).below hb67);have N7:=Lib.hid (N6.out.below hb67);have E7:=Lib.hid hse;have B7:Hid (Below w6.heap.size w6 w7):=Lib.hid hb67;have hGl:=S5.out.g.lt;have hz6:w.heap.size+3≤w6.drew.heap.size:=by have:=LC6.out.size;show w.heap.size+3≤w6.heap.size;omega
 have hz5:w.heap.size+3≤W5.heap.size:=by omega
 have HSz:=Lib.hid (And.intro hz5 hz6);clear hse hb7 hb67 hcl hz5 hz6;go_wp2_with fail
 refine hKK.out _ _ (KEEP.out _ fun q _ hq=>B7.out.block q hq) ?_;clear hKK KK
 try simp only [Act.put,List.setIfInBounds_toArray,List.set_cons_zero,List.set_cons_succ]
 iterate 1 (refine' ZW rfl (by rfl) _ (fun w' hSw=>_) _;rotate_left;(obtain⟨s0,s1,s2,s3,s4,s5,s6,s7,s8,s9⟩:=hSw;go_simp;try with_reducible rfl);try simp only [Act.put,List.setIfInBounds_toArray,List.set_cons_zero,List.set_cons_succ])
 refine Zac rfl (by rfl) (fun KK hKK=> ?_);refine wp_store_row 36 _ _ rfl (w.heap.size+1) (stV x.first x.v 7 (.slice A4 n4 c4) x.setup (.slice A7 x.up.sound.length c7)) rfl rfl 36 _ S7.out.s (by kernel_rfl) rfl (Zlf _ _ _ _ _ _ _ _ _ _) ?_;have T8:=Lib.hid (S7.out.s.row (stV x.first x.v 7 (.slice A4 n4 c4) x.setup (.slice A7 x.up.sound.length c7)));have F8:=Lib.hid (S7.out.f.rowO (show w.heap.size+1+1≠w.heap.size+1 by omega) (stV x.first x.v 7 (.slice A4 n4 c4) x.setup (.slice A7 x.up.sound.length c7)));have L8:=Lib.hid (Za8 S7.out.low (Nat.le_succ _) (stV x.first x.v 7 (.slice A4 n4 c4) x.setup (.slice A7 x.up.sound.length c7)));have N8:=Lib.hid (N7.out.but (ZcX (C:=w.heap.size+1) (stV x.first x.v 7 (.slice A4 n4 c4) x.setup (.slice A7 x.up.sound.length c7))) (by have:=HSz.out.1;omega));have E8:=Lib.hid (E7.out.but (ZcX (C:=w.heap.size+1) (stV x.first x.v 7 (.slice A4 n4 c4) x.setup (.slice A7 x.up.sound.length c7))) (by have:=HSz.out.2;omega));refine hKK.out _ _ (KEEP.out _ fun q h1 hq=>(setRow_other _ _ q _ (by omega)).trans (B7.out.block q hq)) ?_;clear hKK KK
 try simp only [Act.put,List.setIfInBounds_toArray,List.set_cons_zero,List.set_cons_succ]
 refine Zac rfl (by rfl) (fun KK hKK=> ?_);refine wp_store_row 45 _ _ rfl (w.heap.size+1+1) #[.int .i64 0,.int .i64 0] rfl rfl 45 _ F8.out (by kernel_rfl) rfl (by simp;rfl) ?_;have T9:=Lib.hid (T8.out.rowO (show w.heap.size+1≠w.heap.size+1+1 by omega) #[.int .i64 0,.int .i64 0]);have F9:=Lib.hid (F8.out.row #[.int .i64 0,.int .i64 0]);have L9:=Lib.hid (Za8 L8.out (show w.heap.size≤w.heap.size+1+1 by omega) #[.int .i64 0,.int .i64 0]);have N9:=Lib.hid (N8.out.but (ZcX (C:=w.heap.size+1+1) #[.int .i64 0,.int .i64 0]) (by have:=HSz.out.1;omega));have E9:=Lib.hid (E8.out.but (ZcX (C:=w.heap.size+1+1) #[.int .i64 0,.int .i64 0]) (by have:=HSz.out.2;omega));refine hKK.out _ _ (KEEP.out _ fun q h1 hq=>(setRow_other _ _ q _ (by omega)).trans ((setRow_other _ _ q _ (by omega)).trans (B7.out.block q hq))) ?_;clear hKK KK
 try simp only [Act.put,List.setIfInBounds_toArray,List.set_cons_zero,List.set_cons_succ]
 refine ZbD ?_;go_wp2_with fail
 refine bodyPost_ret (Zg4 rfl _ _ (w.heap.size+1) (w.heap.size+1+1) _ _ _ _ _ _ _ _ rfl rfl T9.out F9.out Tryz.underlying36 rfl (by kernel_rfl) Tryz.underlying45 rfl (by kernel_rfl)) rfl ?_;exact HP.out _ _ _ (N9.out.low (by have:=HSz.out.1;omega)) (E9.out.low (by have:=HSz.out.2;omega)) L9.out
end Go.Proofs.YtnbkfkbcpfkddaaGreatDoor
