/- Lemmas for a statement on the tops; conditions: as each says. -/
import Derived.Deep.RegionWith
import Derived.Test.YtnbkfkbcpfkddaaGreatDoorM40
set_option linter.unusedVariables false
set_option linter.unusedSimpArgs false
set_option maxRecDepth 100000
set_option maxHeartbeats 1000000
namespace Go.Proofs.YtnbkfkbcpfkddaaGreatDoor
open Go Go.RowKit
def spR (x:Sx):Option (List UInt8):=if ckS x then some (prS x) else none
def OmRel (Wm:World)(l:List Pg)(v i:Value)(wx:World):Prop:=∃k:Nat,k≤l.length∧i= .int .i64 k∧Below Wm.heap.size Wm wx∧ZY Wm.heap.size wx v ((l.take k).map (ZL Zp))
theorem ZhS (x:Sx)(hl:LightO x)(ht:SxTy x)(vs:Int)(A AN:Option Addr)(c cN:Nat)(w:World)(hG:Grd w)(h:RdN 6 pgL w w.heap.size A x.sound)(h2:RdN 3 nxV w w.heap.size AN x.ns):
 Calls Tryz.prog 7 #[.agg (stV x.first x.v vs (.slice AN x.ns.length cN) x.setup (.slice A x.sound.length c))] w (CpV w (spR x)):=by
 have hpg:∀wx,Below w.heap.size w wx→Calls Tryz.prog 17 #[.agg (stV x.first x.v vs (.slice AN x.ns.length cN) x.setup (.slice A x.sound.length c))] wx (Zcv wx x):=fun wx hb=>Zma x hl ht vs A AN c cN wx (hG.below hb) ((h.below hb).more hb.size) ((h2.below hb).more hb.size);unfold Zcv at hpg;have S0:=Lib.hid (OkSt.mk0 w (stV x.first x.v vs (.slice AN x.ns.length cN) x.setup (.slice A x.sound.length c)));obtain⟨⟨c0,c1,c2,c3,c4,c5,c6,c7,c8,c9,c10⟩,⟨r0,r1⟩,rf,l1,l2⟩:=S0.out.cells;unfold spR;cases hb:ckS x with
 |false=>
  rw [hb] at hpg;simp only [Bool.false_eq_true,if_false] at hpg⊢;have hbf:=fun(n a:Int) (h:1≤n) w=>Za5 n a (by omega) w;have HPf:Hid (∀(n a:Int) w',1≤n→Below w.heap.size w w'→CpV w none (.returned (.tuple #[.string ⟨#[]⟩,.agg #[.int .i64 n,.int .i64 a]])) w'):=Lib.hid fun n a w' h1 hb=>⟨hb,n,a,h1,rfl⟩
  generalize CpV w none=P at*;clear hb h h2 hG hl ht;unfold stV at*;go_enter Tryz.func7,Tryz.ntmps7
  go_upto_region 3 with(first
   |(go_at_call 17;(with_reducible refine(hpg _ S0.out.low).mono ?_);rintro e w1 ⟨hb1,n,a,h1,rfl⟩;have H1:1≤n:=h1;have S1:=Lib.hid ((S0.out.below hb1).alloc (.cells #[.int .i64 n,.int .i64 a] 45));have X1:=Lib.hid (Bx.new w1 #[.int .i64 n,.int .i64 a] 45);clear hb1 h1)
   |(go_at_call 8;(with_reducible refine(hbf _ _ H1 _).mono ?_);rintro e w2 ⟨rfl,hb2⟩;have S2:=Lib.hid (S1.out.below hb2);have X2:=Lib.hid (X1.out.below hb2);have z0:=X2.out.cell 0;have z1:=X2.out.cell 1;clear hb2;clear c0 c1 c2 c3 c4 c5 c6 c7 c8 c9 c10 r0 r1 rf l1 l2;obtain⟨⟨c0,c1,c2,c3,c4,c5,c6,c7,c8,c9,c10⟩,⟨r0,r1⟩,rf,l1,l2⟩:=S2.out.cells))
  go_region
  all_goals
   go_wp2_with fail
   have F:=S2.out.fin (.int .i64 n) (.int .i64 a);refine bodyPost_ret (Zbg rfl _ _ (w.heap.size+1) _ _ _ _ _ rfl rfl F.1 Tryz.underlying45 rfl (by kernel_rfl)) rfl ?_;exact HPf.out n a _ H1 F.2.drew
 |true=>
  rw [hb] at hpg;simp only [if_true] at hpg⊢;have hc:=ZcY.1 hb;have hbt:=fun w=>ZT 0 0 rfl w;have hok:=ZfU hc ht;have hln:=ZfT hl;have hpl:=ZgX hc hl ht;have HPt:Hid (∀w',Below w.heap.size w w'→CpV w (some (prS x)) (.returned (.tuple #[.string (B (prS x)),.agg #[.int .i64 0,.int .i64 0]])) w'):=Lib.hid fun w' hb=>⟨hb,rfl⟩
  have HJ:Hid (∀(b:Nat) wx v,ZY b wx v ((ZO x).map (ZL Zp))→Calls Tryz.prog 19 #[v] wx fun e w'=>e= .returned (.string (B (prS x)))∧Below wx.heap.size wx w'):=Lib.hid fun b wx v h=>Zel h (by show(prS x).length≤_;omega) (by rw [List.length_map];omega);have HOK:=Lib.hid hok;obtain⟨i0,hi,iz0,iz1,iz2⟩:=info_parts Zd0;generalize CpV w (some (prS x))=P at*;generalize prS x=PR at*;clear hb h h2 hG hl ht hc hok hpl;generalize hL:ZO x=l at*;clear hL;unfold stV at*;go_enter Tryz.func7,Tryz.ntmps7
  go_wp2_with (first
   |(go_at_call 17;(with_reducible refine(hpg _ S0.out.low).mono ?_);rintro e w1 ⟨hb1,v1,rfl,hr1⟩;obtain⟨A1,c1b,hv1,hrd1⟩:=RdN.of_rows Zb2 hr1;subst hv1;have S1:=Lib.hid ((S0.out.below hb1).alloc (.cells #[.int .i64 0,.int .i64 0] 45));have R1:=Lib.hid ((hrd1.below ((Below.refl _ _).alloc (Nat.le_refl _) (.cells #[.int .i64 0,.int .i64 0] 45))).more ((Below.refl w1.heap.size w1).alloc (Nat.le_refl _) (.cells #[.int .i64 0,.int .i64 0] 45)).size);clear hb1 hr1 hrd1)
   |(go_at_call 8;(with_reducible refine(hbt _).mono ?_);rintro e w2 ⟨rfl,hb2⟩;have S2:=Lib.hid (S1.out.below hb2);have R2:=Lib.hid ((R1.out.below hb2).more hb2.size);clear hb2;clear c0 c1 c2 c3 c4 c5 c6 c7 c8 c9 c10 r0 r1 rf l1 l2;obtain⟨⟨c0,c1,c2,c3,c4,c5,c6,c7,c8,c9,c10⟩,⟨r0,r1⟩,rf,l1,l2⟩:=S2.out.cells)
   |(at_make;refine wpList_make_own _ rfl _ _ 78 rfl w2.heap.size 9 i0 (.string ⟨#[]⟩) 1 Tryz.underlying78 hi iz0 iz1 .i64 .i64 _ l.length rfl rfl rfl (by rw [iz2];omega) (by unfold maxLen;omega) (Nat.le_refl _) ?_;intro w3 hown3 hg3))
  have B3:=Lib.hid ((Below.refl w2.heap.size w2).grown hg3 (Nat.le_refl _) (fun k h=>by cases h));have O3:Hid (ZY w2.heap.size w3 (.slice (some ⟨w2.heap.size,0,none⟩) 0 l.length) []):=Lib.hid hown3;clear hown3 hg3;clear c0 c1 c2 c3 c4 c5 c6 c7 c8 c9 c10 r0 r1 rf l1 l2;go_loopw [6,24] (fun v i wx=>OmRel w2 l v i wx) (fun _ i _=>l.length - (intOf i).toNat)
  case atStart=>exact⟨0,Nat.zero_le _,rfl,B3.out,O3.out⟩
  case round=>
   obtain⟨k,hk,rfl,hlo,how⟩:=hrel;have LO:=Lib.hid hlo;obtain⟨L,hL⟩:∃L,L=(l.take k).map (ZL Zp):=⟨_,rfl⟩
   rw [←hL] at how;have OW:=Lib.hid how;have hLl:L.length≤16777216:=by rw [hL,List.length_map,List.length_take];omega
   have HL:=Lib.hid hL;clear hlo how hL;obtain⟨A6,c6b,hv6,hc6⟩:=OW.out.len;subst hv6;by_cases hlt:k<l.length
   · obtain⟨p,hk1⟩:∃p,l[k]? =some p:=⟨_,List.getElem?_eq_getElem hlt⟩
     have ok:=HOK.out p (List.mem_of_getElem? hk1);obtain⟨ad,rfl,hadb,y0,y1,y2,y3,y4,y5⟩:=(R2.out.below LO.out).page hk1;have hbl:ad.block<wr.heap.size:=Nat.lt_of_lt_of_le hadb LO.out.size;have hst2:l.take (k+1)=l.take k++[p]:=(Zb6 hk1).2;have HNX:Hid ((l.take (k+1)).map (ZL Zp)=L++[ZL Zp p]):=Lib.hid (by rw [hst2,List.map_append,←HL.out];rfl);have hpp:=fun w=>Zml p ok.fit ok.ck w;unfold Zfu pgA at hpp;clear hk1 hst2 ok;generalize ZL Zp p=PP at*;have P0:=Lib.hid (Bx.new wr #[.int .u8 p.fl.toNat,.int .u64 (p.pos:Nat),.int .u32 (p.ser:Nat),.int .u32 (p.num:Nat),.string (B p.laces),.string (B p.body)] 27);have D0:=Lib.hid ((Below.refl _ wr).alloc (Nat.le_refl _) (.cells #[.int .u8 p.fl.toNat,.int .u64 (p.pos:Nat),.int .u32 (p.ser:Nat),.int .u32 (p.num:Nat),.string (B p.laces),.string (B p.body)] 27));go_wp2_with (first
      |(go_at_call 18;(with_reducible refine(hpp _).mono ?_);rintro e w4 ⟨rfl,hb4⟩;have D4:=Lib.hid ((D0.out.trans (hb4.mono D0.out.size)).alloc (Nat.le_trans D0.out.size hb4.size) (.cells #[.int .i64 0,.int .i64 0] 45));clear hb4)
      |(go_at_call 8;(with_reducible refine(hbt _).mono ?_);rintro e w5 ⟨rfl,hb5⟩;have D5:=Lib.hid (D4.out.trans (hb5.mono D4.out.size));have L5:=Lib.hid (LO.out.trans (D5.out.mono LO.out.size));have O5:=Lib.hid (OW.out.below D5.out);have hz5:=L5.out.size;clear hb5)
      |(at_builtin;refine ZdE rfl _ _ rfl w2.heap.size (.slice A6 L.length c6b) L rfl w5 PP O5.out hz5 hLl rfl ?_;intro v8 w8 HO8 hb8 hg8 hf8;have L8:=Lib.hid (L5.out.trans hb8);clear hb8 hg8 hf8))
     go_roundw
     case rel=>exact⟨k+1,by omega,by go_num,L8.out,by rw [HNX.out];exact HO8.out⟩
     case measure=>simp [intOf];omega
   · obtain rfl:k=l.length:=by omega
     have hL2:=HL.out;rw [List.take_length] at hL2;have hj:=HJ.out w2.heap.size wr (.slice A6 L.length c6b) (by rw [←hL2];exact OW.out);have SF:=Lib.hid (S2.out.below LO.out);clear hL2 HL HJ;obtain⟨⟨c0,c1,c2,c3,c4,c5,c6,c7,c8,c9,c10⟩,⟨r0,r1⟩,rf,l1,l2⟩:=SF.out.cells;go_wp2_with (go_at_call 19;(with_reducible refine hj.mono ?_);rintro e w6 ⟨rfl,hb6⟩;have S6:=Lib.hid (SF.out.below hb6);clear hb6;clear c0 c1 c2 c3 c4 c5 c6 c7 c8 c9 c10 r0 r1 rf l1 l2;obtain⟨⟨c0,c1,c2,c3,c4,c5,c6,c7,c8,c9,c10⟩,⟨r0,r1⟩,rf,l1,l2⟩:=S6.out.cells)
     have F:=S6.out.fin (.int .i64 0) (.int .i64 0);refine bodyPost_ret (Zbg rfl _ _ (w.heap.size+1) _ _ _ _ _ rfl rfl F.1 Tryz.underlying45 rfl (by kernel_rfl)) rfl ?_;exact HPt.out _ F.2
def ZbR (x:Sx):Bool:=x.sound.all (fun p=>decide (p.laces.length≤300)&&decide (p.body.length≤500))&&(decide (x.sound.length≤10)&&(decide (x.setup.length≤70000)&&(decide (x.first.laces.length≤300)&&(decide (x.first.body.length≤500)&&Zal x.v x.ns))))
theorem ZoH {x:Sx} (h:ZbR x=true):LightO x:=by
 unfold ZbR Zal at h;simp only [Bool.and_eq_true,List.all_eq_true,decide_eq_true_eq] at h;obtain⟨h1,h2,h3,h4,h5,h6,h7,h8⟩:=h;exact⟨h2,h1,h3,h4,h5,h7,h6,h8⟩
def LstRel (w0:World)(XA:Array Value)(l:List Pg)(i:Value)(wx:World):Prop:=∃k:Nat,k≤l.length∧i= .int .i64 k∧Bx wx w0.heap.size XA 36∧Below w0.heap.size w0 wx∧∀p∈l.take k,p.laces.length≤300∧p.body.length≤500
theorem Zl5 (x:Sx)(vs:Int)(A AN:Option Addr)(c cN:Nat)(hn:x.ns.length≤9223372036854775807)(hm:x.sound.length≤9223372036854775807)(w:World)(h:RdN 6 pgL w w.heap.size A x.sound)(h2:RdN 3 nxV w w.heap.size AN x.ns):
 Calls Tryz.prog 5 #[.agg (stV x.first x.v vs (.slice AN x.ns.length cN) x.setup (.slice A x.sound.length c))] w fun e w'=>e= .returned (.bool (ZbR x))∧Below w.heap.size w w':=by
 have HP:Hid (∀(b:Bool) w',ZbR x=b→Below w.heap.size w w'→(fun(e:Ending) (w':World)=>e=Ending.returned (.bool (ZbR x))∧Below w.heap.size w w') (.returned (.bool b)) w'):=Lib.hid fun b w' hb h=>⟨by rw [hb],h⟩
 generalize (fun(e:Ending) (w':World)=>e=Ending.returned (.bool (ZbR x))∧Below w.heap.size w w')=P at*;have hlc:=fun wx (hb:Below w.heap.size w wx)=>Zl4 x.v vs AN cN x.ns hn wx ((h2.below hb).more hb.size);have B0:=Lib.hid (Bx.new w (stV x.first x.v vs (.slice AN x.ns.length cN) x.setup (.slice A x.sound.length c)) 36);have L0:=Lib.hid ((Below.refl _ w).alloc (Nat.le_refl _) (.cells (stV x.first x.v vs (.slice AN x.ns.length cN) x.setup (.slice A x.sound.length c)) 36));have HR:=Lib.hid h;have hs1:=Zm x.setup;have hs2:=Zm x.first.laces;have hs3:=Zm x.first.body;have HL:Hid (ZbR x=(x.sound.all (fun p=>decide (p.laces.length≤300)&&decide (p.body.length≤500))&&(decide (x.sound.length≤10)&&(decide (x.setup.length≤70000)&&(decide (x.first.laces.length≤300)&&(decide (x.first.body.length≤500)&&Zal x.v x.ns)))))):=Lib.hid rfl;generalize ZbR x=R at*;generalize Zal x.v x.ns=RC at*;clear h h2;unfold stV at*;go_enter Tryz.func5,Tryz.ntmps5
 go_wp2_with fail
 go_loopw [8] (fun i wx=>LstRel w (stV x.first x.v vs (.slice AN x.ns.length cN) x.setup (.slice A x.sound.length c)) x.sound i wx) (fun i _=>x.sound.length - (intOf i).toNat)
 case atStart=>exact⟨0,Nat.zero_le _,rfl,B0.out,L0.out,by simp⟩
 case round=>
  obtain⟨k,hk,rfl,hbx,hlo,hno⟩:=hrel;have BX:=Lib.hid hbx;have LO:=Lib.hid hlo;have HO:=Lib.hid hno;have c4:wr.cell? ⟨w.heap.size,4,none⟩=some (.string (B x.first.laces)):=hbx.cell 4;have c5:wr.cell? ⟨w.heap.size,5,none⟩=some (.string (B x.first.body)):=hbx.cell 5;have c6:wr.cell? ⟨w.heap.size,6,none⟩=some (.string (B x.v)):=hbx.cell 6;have c7:wr.cell? ⟨w.heap.size,7,none⟩=some (.int .i64 vs):=hbx.cell 7;have c8:wr.cell? ⟨w.heap.size,8,none⟩=some (.slice AN x.ns.length cN):=hbx.cell 8;have c9:wr.cell? ⟨w.heap.size,9,none⟩=some (.string (B x.setup)):=hbx.cell 9;have c10:wr.cell? ⟨w.heap.size,10,none⟩=some (.slice A x.sound.length c):=hbx.cell 10;have hlt0:=hbx.lt;clear hbx hlo hno;by_cases hlt:k<x.sound.length
  · obtain⟨p,hk1⟩:∃p,x.sound[k]? =some p:=⟨_,List.getElem?_eq_getElem hlt⟩
    obtain⟨ad,rfl,hadb,y0,y1,y2,y3,y4,y5⟩:=(HR.out.below LO.out).page hk1;have hbl:ad.block<wr.heap.size:=Nat.lt_of_lt_of_le hadb LO.out.size;have HK:=Lib.hid (Zb6 hk1).2;have hmem:=List.mem_of_getElem? hk1;have hs4:=Zm p.laces;have hs5:=Zm p.body;clear hk1;by_cases h1:p.laces.length≤300
    · have q1:decide (300<(p.laces.length:Int))=false:=decide_eq_false (by omega);have q1':¬300<(p.laces.length:Int):=by omega
      by_cases h2:p.body.length≤500
      · have q2:decide (500<(p.body.length:Int))=false:=decide_eq_false (by omega);have q2':¬500<(p.body.length:Int):=by omega
        have H12:=Lib.hid (And.intro h1 h2);clear h1 h2 hmem hlc;go_wp2_with fail
        go_roundw
        case rel=>exact⟨k+1,by omega,by go_num,BX.out.alloc _,LO.out.alloc LO.out.size _,fun q hq=>by
         rw [HK.out] at hq;rcases List.mem_append.1 hq with hq|hq
         · exact HO.out q hq
         · simp only [List.mem_singleton] at hq;subst hq;exact H12.out⟩
        case measure=>simp [intOf];omega
      · have q2:decide (500<(p.body.length:Int))=true:=decide_eq_true (by omega);have q2':500<(p.body.length:Int):=by omega
        have HQ:Hid (R=false):=Lib.hid (by
         have:x.sound.all (fun p=>decide (p.laces.length≤300)&&decide (p.body.length≤500))=false:=by
          rw [List.all_eq_false];exact⟨p,hmem,by simp;omega⟩
         rw [HL.out,this];rfl)
        clear h1 h2 hmem HL hlc;go_wp2_with fail
        exact HP.out false _ HQ.out (LO.out.alloc LO.out.size _)
    · have q1:decide (300<(p.laces.length:Int))=true:=decide_eq_true (by omega);have q1':300<(p.laces.length:Int):=by omega
      have HQ:Hid (R=false):=Lib.hid (by
       have:x.sound.all (fun p=>decide (p.laces.length≤300)&&decide (p.body.length≤500))=false:=by
        rw [List.all_eq_false];exact⟨p,hmem,by simp;omega⟩
       rw [HL.out,this];rfl)
      clear h1 hmem HL hlc;go_wp2_with fail
      exact HP.out false _ HQ.out (LO.out.alloc LO.out.size _)
  · obtain rfl:k=x.sound.length:=by omega
    have hall:x.sound.all (fun p=>decide (p.laces.length≤300)&&decide (p.body.length≤500))=true:=by
     rw [List.all_eq_true];have:=HO.out;rw [List.take_length] at this;intro q hq;have:=this q hq;simpa using this
    have HQ:Hid (R=(decide (x.sound.length≤10)&&(decide (x.setup.length≤70000)&&(decide (x.first.laces.length≤300)&&(decide (x.first.body.length≤500)&&RC))))):=Lib.hid (by rw [HL.out,hall];rfl);clear hall HL;by_cases h1:x.sound.length≤10
    case neg=>
     have q1:decide ((x.sound.length:Int)≤10)=false:=decide_eq_false (by omega);have HQ2:Hid (R=false):=Lib.hid (by rw [HQ.out,decide_eq_false h1];rfl);clear h1 HQ;go_wp2_with fail
     exact HP.out false _ HQ2.out LO.out
    have q1:decide ((x.sound.length:Int)≤10)=true:=decide_eq_true (by omega);by_cases h2:x.setup.length≤70000
    case neg=>
     have q2:decide ((x.setup.length:Int)≤70000)=false:=decide_eq_false (by omega);have HQ2:Hid (R=false):=Lib.hid (by rw [HQ.out,decide_eq_false h2];simp);clear h2 HQ;go_wp2_with fail
     exact HP.out false _ HQ2.out LO.out
    have q2:decide ((x.setup.length:Int)≤70000)=true:=decide_eq_true (by omega);by_cases h3:x.first.laces.length≤300
    case neg=>
     have q3:decide ((x.first.laces.length:Int)≤300)=false:=decide_eq_false (by omega);have HQ2:Hid (R=false):=Lib.hid (by rw [HQ.out,decide_eq_false h3];simp);clear h3 HQ;go_wp2_with fail
     exact HP.out false _ HQ2.out LO.out
    have q3:decide ((x.first.laces.length:Int)≤300)=true:=decide_eq_true (by omega);by_cases h4:x.first.body.length≤500
    case neg=>
     have q4:decide ((x.first.body.length:Int)≤500)=false:=decide_eq_false (by omega);have HQ2:Hid (R=false):=Lib.hid (by rw [HQ.out,decide_eq_false h4];simp);clear h4 HQ;go_wp2_with fail
     exact HP.out false _ HQ2.out LO.out
    have q4:decide ((x.first.body.length:Int)≤500)=true:=decide_eq_true (by omega);have HQ2:Hid (R=RC):=Lib.hid (by rw [HQ.out,decide_eq_true h1,decide_eq_true h2,decide_eq_true h3,decide_eq_true h4];rfl);clear h1 h2 h3 h4 HQ;go_wp2_with (go_at_call 14;(with_reducible refine(hlc _ LO.out).mono ?_);rintro e w1 ⟨rfl,hb1⟩;have L1:=Lib.hid (LO.out.trans (hb1.mono LO.out.size));clear hb1)
    all_goals exact HP.out RC _ HQ2.out L1.out
def rpL (p:Pg):List Value:=[.int .i64 p.fl.toNat,.int .u64 (p.pos:Nat),.int .u64 (p.ser:Nat),.int .u64 (p.num:Nat),.string (B p.laces),.string (B p.body)]
theorem ZpP:(Tryz.prog.info? 62).map (fun i=>(i.zero,i.size,i.bytes))=some (some (.agg #[.int .i64 0,.int .u64 0,.int .u64 0,.int .u64 0,.string ⟨#[]⟩,.string ⟨#[]⟩]),6,64):=by kernel_rfl
theorem ZhT (p:Pg)(ht:PgTy p)(w:World):Calls Tryz.prog 27 #[.agg #[.int .u8 p.fl.toNat,.int .u64 (p.pos:Nat),.int .u32 (p.ser:Nat),.int .u32 (p.num:Nat),.string (B p.laces),.string (B p.body)]] w fun e w'=>e= .returned (.agg #[.int .i64 p.fl.toNat,.int .u64 (p.pos:Nat),.int .u64 (p.ser:Nat),.int .u64 (p.num:Nat),.string (B p.laces),.string (B p.body)])∧Below w.heap.size w w':=by
 have h1:=p.fl.toNat_lt;have h2:=ht.ser;have h3:=ht.num;have w1:IntKind.i64.wrap (p.fl.toNat:Int)=p.fl.toNat:=by rw [IntKind.wrap_i64];omega
 have w2:IntKind.u64.wrap (p.ser:Int)=p.ser:=by rw [IntKind.wrap_u64];omega
 have w3:IntKind.u64.wrap (p.num:Int)=p.num:=by rw [IntKind.wrap_u64];omega
 have R0:=Bx.new (w.alloc (.cells #[.int .u8 p.fl.toNat,.int .u64 (p.pos:Nat),.int .u32 (p.ser:Nat),.int .u32 (p.num:Nat),.string (B p.laces),.string (B p.body)] 27)) #[.int .i64 p.fl.toNat,.int .u64 (p.pos:Nat),.int .u64 (p.ser:Nat),.int .u64 (p.num:Nat),.string (B p.laces),.string (B p.body)] 62;rw [World.size_alloc] at R0;have HR0:=Lib.hid R0;have L0:Hid (Below w.heap.size w ((w.alloc (.cells #[.int .u8 p.fl.toNat,.int .u64 (p.pos:Nat),.int .u32 (p.ser:Nat),.int .u32 (p.num:Nat),.string (B p.laces),.string (B p.body)] 27)).alloc (.cells #[.int .i64 p.fl.toNat,.int .u64 (p.pos:Nat),.int .u64 (p.ser:Nat),.int .u64 (p.num:Nat),.string (B p.laces),.string (B p.body)] 62))):=Lib.hid (((Below.refl _ w).alloc (Nat.le_refl _) _).alloc (by simp) _);clear R0;go_enter Tryz.func27,Tryz.ntmps27
 go_wp2_with fail
 refine bodyPost_ret (results_cell_row rfl _ _ (w.heap.size+1) _ _ _ _ rfl HR0.out Tryz.underlying62 rfl (by kernel_rfl)) rfl ⟨rfl,L0.out⟩
theorem Ze8 {α:Type} {f:α→List Value} {B0:Nat} {w:World} {v:Value} {l:List α} (h:Zg f B0 w v l):∀bk,v.ownBlock=some bk→B0≤bk∧bk<w.heap.size:=by
 intro bk hbk;rcases h with⟨_,hh⟩|⟨b2,c2,_,hh,_,hB,hlt,_⟩
 · subst hh;simp [Value.ownBlock] at hbk
 · subst hh;simp only [Value.ownBlock,Option.some.injEq] at hbk;subst hbk;exact⟨hB,hlt⟩
theorem Zg.keepBs {α:Type} {f:α→List Value} {B0:Nat} {w w':World} {v:Value} {l:List α} (h:Zg f B0 w v l)(hs:w.heap.size≤w'.heap.size)(hb:∀bk,v.ownBlock=some bk→bk<w.heap.size→w'.heap[bk]? =w.heap[bk]?):Zg f B0 w' v l:=by
 rcases h with h|⟨bk,c,h0,h1,h2,h5,h3,h4⟩
 · exact .inl h
 · refine .inr ⟨bk,c,h0,h1,h2,h5,by omega,fun j u hu=> ?_⟩;have hk:=hb bk (by rw [h1];rfl) h3;rw [←h4 j u hu];unfold World.cell?;rw [hk]
def rsV (p:Pg)(v:List UInt8)(vs:Int)(vn:Value)(setup:List UInt8)(vso:Value):Array Value:=#[.int .i64 p.fl.toNat,.int .u64 (p.pos:Nat),.int .u64 (p.ser:Nat),.int .u64 (p.num:Nat),.string (B p.laces),.string (B p.body),.string ⟨#[]⟩,.string (B v),.int .i64 vs,vn,.string (B setup),vso]
theorem Zg8 (p:Pg)(v:List UInt8)(vs:Int)(A:Option Addr)(n c:Nat)(setup:List UInt8):(rsV p v vs (.slice A n c) setup (.slice none 0 0)).all (·.oneCell')=true:=by
 unfold rsV;simp
 repeat (first|exact rfl|refine And.intro rfl ?_)
theorem ZpQ (p:Pg)(v:List UInt8)(vs:Int)(A A2:Option Addr)(n c n2 c2:Nat)(setup:List UInt8):(rsV p v vs (.slice A n c) setup (.slice A2 n2 c2)).all (·.oneCell')=true:=by
 unfold rsV;simp
 repeat (first|exact rfl|refine And.intro rfl ?_)
def Z12:Array Value:=#[.int .i64 0,.int .u64 0,.int .u64 0,.int .u64 0,.string ⟨#[]⟩,.string ⟨#[]⟩,.string ⟨#[]⟩,.string ⟨#[]⟩,.int .i64 0,.slice none 0 0,.string ⟨#[]⟩,.slice none 0 0]
structure O2St (w0 wx:World)(XA:Array Value)(G Bm:Nat)(x:Sx)(vs:Int)(vn:Value)(L:List Pg)(vl:Value):Prop where
 b:Bx wx w0.heap.size XA 36
 res:Bx wx (w0.heap.size+1) Z12 70
 m:Bx wx G (rsV x.first x.v vs vn x.setup vl) 70
 own:wx.ownsRow Bm 62 6 vl L.length (L.flatMap rpL)
 nil_:L=[]→vl= .slice none 0 0
 nts:Zg nxV (w0.heap.size+2) wx vn x.ns
 ntl:∀bk,vn.ownBlock=some bk→bk<Bm∧bk≠G
 low:Below w0.heap.size w0 wx
 hG:w0.heap.size+2≤G
 hB:G<Bm
 hs:Bm≤wx.heap.size
section
variable {w0 w w':World} {XA:Array Value} {G Bm:Nat} {x:Sx} {vs:Int} {vn vl v6:Value} {L L2:List Pg}
theorem O2St.below (h:O2St w0 w XA G Bm x vs vn L vl)(hb:Below w.heap.size w w'):O2St w0 w' XA G Bm x vs vn L vl:=⟨h.b.below hb,h.res.below hb,h.m.below hb,Zo h.own hb,h.nil_,h.nts.below hb,h.ntl,h.low.trans (hb.mono h.low.size),h.hG,h.hB,Nat.le_trans h.hs hb.size⟩
theorem O2St.c11 (h:O2St w0 w XA G Bm x vs vn L vl):w.cell? ⟨G,11,none⟩=some vl∧G<w.heap.size:=⟨h.m.cell 11,h.m.lt⟩
theorem O2St.next (h:O2St w0 w XA G Bm x vs vn L vl)(ho:w'.ownsRow Bm 62 6 v6 (L++L2).length ((L++L2).flatMap rpL))(hb:Below Bm w w')(hne:L++L2≠[]):O2St w0 (w'.setCell ⟨G,11,none⟩ v6) XA G Bm x vs vn (L++L2) v6:=by
 have h1:=h.hG;have h2:=h.hB;have hbt:But G w'.heap.size w' (w'.setCell ⟨G,11,none⟩ v6):=(But.refl _ _ _).setCell (p:=⟨G,11,none⟩) (.inr rfl) _;exact⟨(h.b.same6 hb (by omega)).set (by omega) 11 _,(h.res.same6 hb (by omega)).set (by omega) 11 _,(h.m.same6 hb (by omega)).put 11 _,Zb0 ho hbt (by omega),fun e=>absurd e hne,
  (h.nts.keepBs hb.size (fun bk hk _=>hb.block bk (h.ntl bk hk).1)).keepBs hbt.size (fun bk hk hl=>hbt.block bk hl (h.ntl bk hk).2),h.ntl,
  (h.low.trans (hb.mono (by omega))).setCell (p:=⟨G,11,none⟩) (by show w0.heap.size≤G;omega) _,h1,h2,Nat.le_trans (Nat.le_trans h.hs hb.size) hbt.size⟩
theorem O2St.mk1 (hb:Bx w w0.heap.size XA 36)(hr:Bx w (w0.heap.size+1) Z12 70)(hl:Below w0.heap.size w0 w)(hm:Bx w G Z12 70)(hG:w0.heap.size+2≤G)(hn:Zg nxV (w0.heap.size+2) w vn x.ns)(hne:∀bk,vn.ownBlock=some bk→bk≠G):
 O2St w0 (w.setRow G (rsV x.first x.v vs vn x.setup (.slice none 0 0))) XA G w.heap.size x vs vn [] (.slice none 0 0):=by
 have hbt:But G w.heap.size w (w.setRow G (rsV x.first x.v vs vn x.setup (.slice none 0 0))):=ZcX _;exact⟨hb.but hbt (by omega),hr.but hbt (by omega),hm.row _,⟨rfl,.inl ⟨rfl,rfl⟩⟩,fun _=>rfl,hn.keepBs hbt.size (fun bk hk hl=>hbt.block bk hl (hne bk hk)),fun bk hk=>⟨(Ze8 hn bk hk).2,hne bk hk⟩,
  hl.trans ((hbt.mono hl.size).below (by omega)),hG,hm.lt,hbt.size⟩
end
theorem ZfY {o:Oper} {a:Act} {K:Act→World→Prop} {Q:Exit→Act→World→Prop} (s x:Operand)(ho:o.op= .call {callee:= .builtin .append,args:=#[s,x],argTypes:=#[68,68]}) (base:Nat) (v:Value) (L:List Pg) (hs:a.eval s=v) (W:World) (m:Pg) (cs:Array Value) (hcs:cs=(rpL m).toArray)
 (hown:W.ownsRow base 62 6 v L.length (L.flatMap rpL)) (hbase:base≤W.heap.size) (hlen:L.length≤16777216) (hx:a.eval x= .slice (some ⟨W.heap.size,0,none⟩) 1 1)
 (h:∀v' w',Hid (w'.ownsRow base 62 6 v' (L++[m]).length ((L++[m]).flatMap rpL))→Below base W w'→W.grownBy w' v.ownBlock→K (a.put o.dst v') w'):
 o.wp Tryz.prog a (W.alloc (.cells cs 62)) K Q:=by
 obtain⟨i0,hi,iz0,iz1,iz2⟩:=info_parts ZpP;subst hcs;refine wp_append_own _ s x 68 ho base 62 i0 _ 6 64 Tryz.underlying68 hi iz0 iz1 iz2 rfl (by decide) v L.length _ hs (hown.alloc _) ⟨W.heap.size,0,none⟩ 1 1 (rpL m) hx rfl (Zco W (rpL m) _) ?_ (by unfold maxLen;omega) (by omega) (by simp;omega) ?_
 · intro u hu;simp only [rpL,List.mem_cons,List.not_mem_nil,or_false] at hu;rcases hu with rfl|rfl|rfl|rfl|rfl|rfl<;>rfl
 · intro v6 w6 hown6 hg6 _;refine h v6 w6 (Lib.hid ?_) (Z3 ((Below.refl _ W).alloc hbase _) (hown.alloc _) hg6 (by simp;omega) (Nat.le_refl _)) (ZeO hg6);rw [List.flatMap_append,List.length_append];simpa [rpL] using hown6
def O2Rel (w0:World)(XA:Array Value)(G Bm:Nat)(x:Sx)(vs:Int)(vn:Value)(i:Value)(wx:World):Prop:=∃(k:Nat) (vl:Value),k≤x.sound.length∧i= .int .i64 k∧Hid (O2St w0 wx XA G Bm x vs vn (x.sound.take k) vl)
def ZfD (w:World)(x:Sx)(vs:Int)(e:Ending)(w':World):Prop:=∃vn vso,e= .returned (.agg (rsV x.first x.v vs vn x.setup vso))∧Zg nxV w.heap.size w' vn x.ns∧Zg rpL w.heap.size w' vso x.sound∧Below w.heap.size w w'
theorem ZhU (x:Sx)(ht:SxTy x)(vs:Int)(A AN:Option Addr)(c cN:Nat)(hm:x.sound.length≤1000)(hn:x.ns.length≤1000)(w:World)(h:RdN 6 pgL w w.heap.size A x.sound)(h2:RdN 3 nxV w w.heap.size AN x.ns):
 Calls Tryz.prog 12 #[.agg (stV x.first x.v vs (.slice AN x.ns.length cN) x.setup (.slice A x.sound.length c))] w (ZfD w x vs):=by
 generalize hP:ZfD w x vs=P;have HP:Hid (∀vn vso w',Zg nxV w.heap.size w' vn x.ns→Zg rpL w.heap.size w' vso x.sound→Below w.heap.size w w'→P (.returned (.agg (rsV x.first x.v vs vn x.setup vso))) w'):=Lib.hid fun vn vso w' h1 h2 h3=>by rw [←hP];exact⟨vn,vso,rfl,h1,h2,h3⟩
 have HR:=Lib.hid h;have HT:=Lib.hid ht.sound;have h17:=fun w=>ZhT x.first ht.first w;have hoc:=fun wx (hb:Below w.heap.size w wx)=>Zmd x.v vs AN cN x.ns hn wx ((h2.below hb).more hb.size);unfold ZfE at hoc;have X0:Hid (Bx ((w.alloc (.cells (stV x.first x.v vs (.slice AN x.ns.length cN) x.setup (.slice A x.sound.length c)) 36)).alloc (.cells Z12 70)) w.heap.size (stV x.first x.v vs (.slice AN x.ns.length cN) x.setup (.slice A x.sound.length c)) 36):=Lib.hid ((Bx.new w _ _).alloc _);have R0:Hid (Bx ((w.alloc (.cells (stV x.first x.v vs (.slice AN x.ns.length cN) x.setup (.slice A x.sound.length c)) 36)).alloc (.cells Z12 70)) (w.heap.size+1) Z12 70):=Lib.hid (by
  have:=Bx.new (w.alloc (.cells (stV x.first x.v vs (.slice AN x.ns.length cN) x.setup (.slice A x.sound.length c)) 36)) Z12 70
  rwa [World.size_alloc] at this)
 have L0:Hid (Below w.heap.size w ((w.alloc (.cells (stV x.first x.v vs (.slice AN x.ns.length cN) x.setup (.slice A x.sound.length c)) 36)).alloc (.cells Z12 70))):=Lib.hid (((Below.refl _ w).alloc (Nat.le_refl _) _).alloc (by simp) _);have HW2:Hid (w.heap.size+2≤((w.alloc (.cells (stV x.first x.v vs (.slice AN x.ns.length cN) x.setup (.slice A x.sound.length c)) 36)).alloc (.cells Z12 70)).heap.size):=Lib.hid (by simp);clear h hP h2 ht;go_enter Tryz.func12,Tryz.ntmps12
 unfold stV at X0 R0 L0 HW2⊢;unfold Z12 at X0 L0 HW2;go_upto_region 1 with fail
 unfold Z12 at R0;generalize hW:(w.alloc _).alloc _=W0 at*;clear hW;go_cut [3] (fun s3 wx=>∃(G Bm:Nat) (vn:Value),s3= .pointer (some ⟨G,0,none⟩)∧O2St w wx (stV x.first x.v vs (.slice AN x.ns.length cN) x.setup (.slice A x.sound.length c)) G Bm x vs vn [] (.slice none 0 0))
 case first=>
  have HF2:Hid (∀w':World,Bx w' w.heap.size (stV x.first x.v vs (.slice AN x.ns.length cN) x.setup (.slice A x.sound.length c)) 36→w'.cell? ⟨w.heap.size,0,none⟩=some (.int .u8 x.first.fl.toNat)∧w'.cell? ⟨w.heap.size,1,none⟩=some (.int .u64 (x.first.pos:Nat))∧w'.cell? ⟨w.heap.size,2,none⟩=some (.int .u32 (x.first.ser:Nat))∧w'.cell? ⟨w.heap.size,3,none⟩=some (.int .u32 (x.first.num:Nat))∧w'.cell? ⟨w.heap.size,4,none⟩=some (.string (B x.first.laces))∧w'.cell? ⟨w.heap.size,5,none⟩=some (.string (B x.first.body))∧w'.cell? ⟨w.heap.size,6,none⟩=some (.string (B x.v))∧w'.cell? ⟨w.heap.size,7,none⟩=some (.int .i64 vs)∧w'.cell? ⟨w.heap.size,8,none⟩=some (.slice AN x.ns.length cN)∧w'.cell? ⟨w.heap.size,9,none⟩=some (.string (B x.setup))):=Lib.hid fun w' h=>⟨h.cell 0,h.cell 1,h.cell 2,h.cell 3,h.cell 4,h.cell 5,h.cell 6,h.cell 7,h.cell 8,h.cell 9⟩
  have B0:Hid (Below W0.heap.size W0 W0.drew):=Lib.hid (below_drewN (Below.refl _ _) 1);have HF:Hid (∀w':World,Below W0.heap.size W0 w'→w'.cell? ⟨w.heap.size,0,none⟩=some (.int .u8 x.first.fl.toNat)∧w'.cell? ⟨w.heap.size,1,none⟩=some (.int .u64 (x.first.pos:Nat))∧w'.cell? ⟨w.heap.size,2,none⟩=some (.int .u32 (x.first.ser:Nat))∧w'.cell? ⟨w.heap.size,3,none⟩=some (.int .u32 (x.first.num:Nat))∧w'.cell? ⟨w.heap.size,4,none⟩=some (.string (B x.first.laces))∧w'.cell? ⟨w.heap.size,5,none⟩=some (.string (B x.first.body))∧w'.cell? ⟨w.heap.size,6,none⟩=some (.string (B x.v))∧w'.cell? ⟨w.heap.size,7,none⟩=some (.int .i64 vs)∧w'.cell? ⟨w.heap.size,8,none⟩=some (.slice AN x.ns.length cN)∧w'.cell? ⟨w.heap.size,9,none⟩=some (.string (B x.setup))):=Lib.hid fun w' hb=>HF2.out w' (X0.out.below hb);refine Zcr (fun w'=>w'.cell? ⟨w.heap.size,0,none⟩=some (.int .u8 x.first.fl.toNat)∧w'.cell? ⟨w.heap.size,1,none⟩=some (.int .u64 (x.first.pos:Nat))∧w'.cell? ⟨w.heap.size,2,none⟩=some (.int .u32 (x.first.ser:Nat))∧w'.cell? ⟨w.heap.size,3,none⟩=some (.int .u32 (x.first.num:Nat))∧w'.cell? ⟨w.heap.size,4,none⟩=some (.string (B x.first.laces))∧w'.cell? ⟨w.heap.size,5,none⟩=some (.string (B x.first.body))∧w'.cell? ⟨w.heap.size,6,none⟩=some (.string (B x.v))∧w'.cell? ⟨w.heap.size,7,none⟩=some (.int .i64 vs)∧w'.cell? ⟨w.heap.size,8,none⟩=some (.slice AN x.ns.length cN)∧w'.cell? ⟨w.heap.size,9,none⟩=some (.string (B x.setup))) (.one 0 true (.one 1 true (.one 3 true (.one 4 true (.one 6 true (.one 7 true (.two 2 9 (.two 5 9 (.one 8 true (.one 9 false (.one 10 false .nil))) (.one 5 false (.one 8 true (.one 10 false .nil)))) (.one 2 false (.one 5 false (.one 8 true (.one 10 false .nil))))))))))) (by kernel_rfl) (by kernel_rfl) (by kernel_rfl) (Nat.le_of_ble_eq_true rfl) (fun _ _ d _ _ h=>by cases d<;>exact h) (HF.out _ B0.out) ?_;generalize W0.drew=Wd at*
  iterate 6 (refine' Zs rfl (by rfl) _ (fun w' hSw=>_) _;rotate_left;(obtain⟨s0,s1,s2,s3,s4,s5,s6,s7,s8,s9⟩:=hSw;go_simp;try with_reducible rfl);try simp only [Act.put,List.setIfInBounds_toArray,List.set_cons_zero,List.set_cons_succ])
  refine Zbf (Ze rfl (by rfl) (fun KK hKK=> ?_)) (Ze rfl (by rfl) (fun KK hKK=> ?_))
  · go_simp
    go_at_call 27
    refine(h17 Wd).mono ?_;rintro e wj1 ⟨rfl,D1⟩;go_wp2_with fail
    have B1:=Lib.hid (B0.out.trans (D1.mono B0.out.size));refine hKK.out _ _ (HF.out _ B1.out) ?_;clear hKK KK D1
    try simp only [Act.put,List.setIfInBounds_toArray,List.set_cons_zero,List.set_cons_succ]
    refine Zbf (Ze rfl (by rfl) (fun KK hKK=> ?_)) (Ze rfl (by rfl) (fun KK hKK=> ?_))
    · go_simp
      go_at_call 28
      refine(hoc wj1 (L0.out.trans (B1.out.mono L0.out.size))).mono ?_;rintro e wj3 ⟨vn,rfl,hvn3,D3⟩;obtain⟨AV,nV,cV,hvv⟩:=Zb5 hvn3;subst hvv;have N3:=Lib.hid (hvn3.low (Nat.le_trans HW2.out B1.out.size));clear hvn3;go_wp2_with fail
      have B3:=Lib.hid (B1.out.trans (D3.mono B1.out.size));refine hKK.out _ _ (HF.out _ B3.out) ?_;clear hKK KK D3
      try simp only [Act.put,List.setIfInBounds_toArray,List.set_cons_zero,List.set_cons_succ]
      iterate 1 (refine' Zs rfl (by rfl) _ (fun w' hSw=>_) _;rotate_left;(obtain⟨s0,s1,s2,s3,s4,s5,s6,s7,s8,s9⟩:=hSw;go_simp;try with_reducible rfl);try simp only [Act.put,List.setIfInBounds_toArray,List.set_cons_zero,List.set_cons_succ])
      refine Zl (Ze rfl (by rfl) (fun KK hKK=> ?_))
      go_simp
      go_wp2_with fail
      have D5:Below wj3.heap.size wj3 (wj3.alloc (.cells #[.int .i64 0,.int .u64 0,.int .u64 0,.int .u64 0,.string ⟨#[]⟩,.string ⟨#[]⟩,.string ⟨#[]⟩,.string ⟨#[]⟩,.int .i64 0,.slice none 0 0,.string ⟨#[]⟩,.slice none 0 0] 70)):=(Below.refl _ _).alloc (Nat.le_refl _) _;have M5:=Lib.hid (Bx.new wj3 #[.int .i64 0,.int .u64 0,.int .u64 0,.int .u64 0,.string ⟨#[]⟩,.string ⟨#[]⟩,.string ⟨#[]⟩,.string ⟨#[]⟩,.int .i64 0,.slice none 0 0,.string ⟨#[]⟩,.slice none 0 0] 70);have NE:=Lib.hid (fun bk (hk:(Value.slice AV nV cV).ownBlock=some bk)=>(Nat.ne_of_lt (Ze8 N3.out bk hk).2:bk≠wj3.heap.size));have B5:=Lib.hid (B3.out.trans (D5.mono B3.out.size));have N5:=Lib.hid (N3.out.below D5);refine hKK.out _ _ (HF.out _ B5.out) ?_;clear hKK KK D5
      try simp only [Act.put,List.setIfInBounds_toArray,List.set_cons_zero,List.set_cons_succ]
      generalize (wj3.alloc (.cells #[.int .i64 0,.int .u64 0,.int .u64 0,.int .u64 0,.string ⟨#[]⟩,.string ⟨#[]⟩,.string ⟨#[]⟩,.string ⟨#[]⟩,.int .i64 0,.slice none 0 0,.string ⟨#[]⟩,.slice none 0 0] 70))=W5 at*;refine Zl (Ze rfl (by rfl) (fun KK hKK=> ?_));have hgg:w.heap.size+2≤wj3.heap.size:=by have h1:=HW2.out;have h2:=B3.out.size;omega
      have SQ:=Lib.hid (O2St.mk1 (x:=x) (vs:=vs) (X0.out.below B5.out) (R0.out.below B5.out) (L0.out.trans (B5.out.mono L0.out.size)) M5.out hgg N5.out NE.out);refine wp_store_row 70 _ _ rfl wj3.heap.size (rsV x.first x.v vs (.slice AV nV cV) x.setup (.slice none 0 0)) rfl rfl 70 Z12 M5.out (by kernel_rfl) rfl (Zg8 _ _ _ _ _ _ _) ?_;refine hKK.out _ _ (HF2.out _ SQ.out.b) ?_;clear hKK KK
      try simp only [Act.put,List.setIfInBounds_toArray,List.set_cons_zero,List.set_cons_succ]
      refine Zae ?_;go_wp2_with fail
      go_meet
      exact⟨_,_,_,rfl,SQ.out⟩
    · go_simp
      go_wp2_with fail
      have D4:Below wj1.heap.size wj1 (wj1.alloc (.cells #[.int .i64 0,.int .u64 0,.int .u64 0,.int .u64 0,.string ⟨#[]⟩,.string ⟨#[]⟩,.string ⟨#[]⟩,.string ⟨#[]⟩,.int .i64 0,.slice none 0 0,.string ⟨#[]⟩,.slice none 0 0] 70)):=(Below.refl _ _).alloc (Nat.le_refl _) _;have M4:=Lib.hid (Bx.new wj1 #[.int .i64 0,.int .u64 0,.int .u64 0,.int .u64 0,.string ⟨#[]⟩,.string ⟨#[]⟩,.string ⟨#[]⟩,.string ⟨#[]⟩,.int .i64 0,.slice none 0 0,.string ⟨#[]⟩,.slice none 0 0] 70);have B4:=Lib.hid (B1.out.trans (D4.mono B1.out.size));refine hKK.out _ _ (HF.out _ B4.out) ?_;clear hKK KK D4
      try simp only [Act.put,List.setIfInBounds_toArray,List.set_cons_zero,List.set_cons_succ]
      generalize (wj1.alloc (.cells #[.int .i64 0,.int .u64 0,.int .u64 0,.int .u64 0,.string ⟨#[]⟩,.string ⟨#[]⟩,.string ⟨#[]⟩,.string ⟨#[]⟩,.int .i64 0,.slice none 0 0,.string ⟨#[]⟩,.slice none 0 0] 70))=W4 at*;refine Zl (Ze rfl (by rfl) (fun KK hKK=> ?_))
      go_simp
      go_at_call 28
      refine(hoc W4 (L0.out.trans (B4.out.mono L0.out.size))).mono ?_;rintro e wj6 ⟨vn,rfl,hvn6,D6⟩;obtain⟨AV,nV,cV,hvv⟩:=Zb5 hvn6;subst hvv;have NE:=Lib.hid (fun bk (hk:(Value.slice AV nV cV).ownBlock=some bk)=>((by have h1:=(Ze8 hvn6 bk hk).1;have h2:=M4.out.lt;omega):bk≠wj1.heap.size));have N6:=Lib.hid (hvn6.low (Nat.le_trans HW2.out B4.out.size));clear hvn6;go_wp2_with fail
      have B6:=Lib.hid (B4.out.trans (D6.mono B4.out.size));have M6:=Lib.hid (M4.out.below D6);refine hKK.out _ _ (HF.out _ B6.out) ?_;clear hKK KK D6
      try simp only [Act.put,List.setIfInBounds_toArray,List.set_cons_zero,List.set_cons_succ]
      iterate 1 (refine' Zs rfl (by rfl) _ (fun w' hSw=>_) _;rotate_left;(obtain⟨s0,s1,s2,s3,s4,s5,s6,s7,s8,s9⟩:=hSw;go_simp;try with_reducible rfl);try simp only [Act.put,List.setIfInBounds_toArray,List.set_cons_zero,List.set_cons_succ])
      refine Zl (Ze rfl (by rfl) (fun KK hKK=> ?_));have hgg:w.heap.size+2≤wj1.heap.size:=by have h1:=HW2.out;have h2:=B1.out.size;omega
      have SQ:=Lib.hid (O2St.mk1 (x:=x) (vs:=vs) (X0.out.below B6.out) (R0.out.below B6.out) (L0.out.trans (B6.out.mono L0.out.size)) M6.out hgg N6.out NE.out);refine wp_store_row 70 _ _ rfl wj1.heap.size (rsV x.first x.v vs (.slice AV nV cV) x.setup (.slice none 0 0)) rfl rfl 70 Z12 M6.out (by kernel_rfl) rfl (Zg8 _ _ _ _ _ _ _) ?_;refine hKK.out _ _ (HF2.out _ SQ.out.b) ?_;clear hKK KK
      try simp only [Act.put,List.setIfInBounds_toArray,List.set_cons_zero,List.set_cons_succ]
      refine Zae ?_;go_wp2_with fail
      go_meet
      exact⟨_,_,_,rfl,SQ.out⟩
  · go_simp
    go_wp2_with fail
    have D2:Below Wd.heap.size Wd (Wd.alloc (.cells #[.int .i64 0,.int .u64 0,.int .u64 0,.int .u64 0,.string ⟨#[]⟩,.string ⟨#[]⟩,.string ⟨#[]⟩,.string ⟨#[]⟩,.int .i64 0,.slice none 0 0,.string ⟨#[]⟩,.slice none 0 0] 70)):=(Below.refl _ _).alloc (Nat.le_refl _) _;have M2:=Lib.hid (Bx.new Wd #[.int .i64 0,.int .u64 0,.int .u64 0,.int .u64 0,.string ⟨#[]⟩,.string ⟨#[]⟩,.string ⟨#[]⟩,.string ⟨#[]⟩,.int .i64 0,.slice none 0 0,.string ⟨#[]⟩,.slice none 0 0] 70);have B2:=Lib.hid (B0.out.trans (D2.mono B0.out.size));refine hKK.out _ _ (HF.out _ B2.out) ?_;clear hKK KK D2
    try simp only [Act.put,List.setIfInBounds_toArray,List.set_cons_zero,List.set_cons_succ]
    generalize (Wd.alloc (.cells #[.int .i64 0,.int .u64 0,.int .u64 0,.int .u64 0,.string ⟨#[]⟩,.string ⟨#[]⟩,.string ⟨#[]⟩,.string ⟨#[]⟩,.int .i64 0,.slice none 0 0,.string ⟨#[]⟩,.slice none 0 0] 70))=W2 at*;refine Zl (Ze rfl (by rfl) (fun KK hKK=> ?_))
    go_simp
    go_at_call 27
    refine(h17 W2).mono ?_;rintro e wj7 ⟨rfl,D7⟩;go_wp2_with fail
    have B7:=Lib.hid (B2.out.trans (D7.mono B2.out.size));have M7:=Lib.hid (M2.out.below D7);refine hKK.out _ _ (HF.out _ B7.out) ?_;clear hKK KK D7
    try simp only [Act.put,List.setIfInBounds_toArray,List.set_cons_zero,List.set_cons_succ]
    refine Zl (Ze rfl (by rfl) (fun KK hKK=> ?_))
    go_simp
    go_at_call 28
    refine(hoc wj7 (L0.out.trans (B7.out.mono L0.out.size))).mono ?_;rintro e wj8 ⟨vn,rfl,hvn8,D8⟩;obtain⟨AV,nV,cV,hvv⟩:=Zb5 hvn8;subst hvv;have NE:=Lib.hid (fun bk (hk:(Value.slice AV nV cV).ownBlock=some bk)=>((by have h1:=(Ze8 hvn8 bk hk).1;have h2:=M7.out.lt;omega):bk≠Wd.heap.size));have N8:=Lib.hid (hvn8.low (Nat.le_trans HW2.out B7.out.size));clear hvn8;go_wp2_with fail
    have B8:=Lib.hid (B7.out.trans (D8.mono B7.out.size));have M8:=Lib.hid (M7.out.below D8);refine hKK.out _ _ (HF.out _ B8.out) ?_;clear hKK KK D8
    try simp only [Act.put,List.setIfInBounds_toArray,List.set_cons_zero,List.set_cons_succ]
    iterate 1 (refine' Zs rfl (by rfl) _ (fun w' hSw=>_) _;rotate_left;(obtain⟨s0,s1,s2,s3,s4,s5,s6,s7,s8,s9⟩:=hSw;go_simp;try with_reducible rfl);try simp only [Act.put,List.setIfInBounds_toArray,List.set_cons_zero,List.set_cons_succ])
    refine Zl (Ze rfl (by rfl) (fun KK hKK=> ?_));have hgg:w.heap.size+2≤Wd.heap.size:=by have h1:=HW2.out;have h2:=B0.out.size;omega
    have SQ:=Lib.hid (O2St.mk1 (x:=x) (vs:=vs) (X0.out.below B8.out) (R0.out.below B8.out) (L0.out.trans (B8.out.mono L0.out.size)) M8.out hgg N8.out NE.out);refine wp_store_row 70 _ _ rfl Wd.heap.size (rsV x.first x.v vs (.slice AV nV cV) x.setup (.slice none 0 0)) rfl rfl 70 Z12 M8.out (by kernel_rfl) rfl (Zg8 _ _ _ _ _ _ _) ?_;refine hKK.out _ _ (HF2.out _ SQ.out.b) ?_;clear hKK KK
    try simp only [Act.put,List.setIfInBounds_toArray,List.set_cons_zero,List.set_cons_succ]
    refine Zae ?_;go_wp2_with fail
    go_meet
    exact⟨_,_,_,rfl,SQ.out⟩
 obtain⟨G,Bm,vn,rfl,hst⟩:=hcut;have ST0:=Lib.hid hst;clear hst X0 R0 L0 HW2 h17 hoc;have c10:wc.cell? ⟨w.heap.size,10,none⟩=some (.slice A x.sound.length c):=ST0.out.b.cell 10;have l1:=ST0.out.b.lt;go_wp2_with fail
 go_loopw [18] (fun i wx=>O2Rel w (stV x.first x.v vs (.slice AN x.ns.length cN) x.setup (.slice A x.sound.length c)) G Bm x vs vn i wx) (fun i _=>x.sound.length - (intOf i).toNat)
 case atStart=>exact⟨0,_,Nat.zero_le _,rfl,ST0⟩
 case round=>
  obtain⟨k,vl,hk,rfl,ST⟩:=hrel;clear c10 l1;obtain⟨A0,n0,c0',hvl⟩:=ZbG ST.out.own;subst hvl;by_cases hlt:k<x.sound.length
  · obtain⟨p,hk1⟩:∃p,x.sound[k]? =some p:=⟨_,List.getElem?_eq_getElem hlt⟩
    obtain⟨ad,rfl,hadb,y0,y1,y2,y3,y4,y5⟩:=(HR.out.below ST.out.low).page hk1;have hbl:ad.block<wr.heap.size:=Nat.lt_of_lt_of_le hadb ST.out.low.size;have HTk:=Lib.hid (Zb6 hk1).2;have htl:(x.sound.take k).length≤16777216:=by rw [List.length_take];omega
    have h17p:=fun w=>ZhT p (HT.out p (List.mem_of_getElem? hk1)) w;have hBs:=ST.out.hs;have hGB:=ST.out.hB;clear hk1;generalize x.sound.take k=tk at*;go_upto_region 5 with fail
    have P0:=Lib.hid (Bx.new wr #[.int .u8 p.fl.toNat,.int .u64 (p.pos:Nat),.int .u32 (p.ser:Nat),.int .u32 (p.num:Nat),.string (B p.laces),.string (B p.body)] 27);have T0:=Lib.hid (ST.out.below ((Below.refl _ wr).alloc (Nat.le_refl _) (.cells #[.int .u8 p.fl.toNat,.int .u64 (p.pos:Nat),.int .u32 (p.ser:Nat),.int .u32 (p.num:Nat),.string (B p.laces),.string (B p.body)] 27)));clear y0 y1 y2 y3 y4 y5;generalize wr.alloc (.cells #[.int .u8 p.fl.toNat,.int .u64 (p.pos:Nat),.int .u32 (p.ser:Nat),.int .u32 (p.num:Nat),.string (B p.laces),.string (B p.body)] 27)=W1 at*;obtain⟨p0,p1,p2,p3,p4,p5⟩:=P0.out.six;have pl:=P0.out.lt;have m11:W1.cell? ⟨G,11,none⟩=some (.slice A0 n0 c0'):=T0.out.m.cell 11;have mf:=T0.out.m.free 11;have ml:=T0.out.m.lt;have hG2:G<Bm:=hGB;have NE:=Lib.hid (Zdi ST.out.own);have NEQ:=Lib.hid (Zdi ST.out.own);have T1:Hid (O2St w W1.drew (stV x.first x.v vs (.slice AN x.ns.length cN) x.setup (.slice (some ad) x.sound.length c)) G Bm x vs vn tk (.slice A0 n0 c0')):=Lib.hid (T0.out.below (below_drewN (Below.refl _ _) 1));have P1:Hid (Bx W1.drew wr.heap.size #[.int .u8 p.fl.toNat,.int .u64 (p.pos:Nat),.int .u32 (p.ser:Nat),.int .u32 (p.num:Nat),.string (B p.laces),.string (B p.body)] 27):=Lib.hid (P0.out.below (below_drewN (Below.refl _ _) 1));have hGQ:wr.heap.size≠G:=by omega
    generalize wr.heap.size=Q at*;have HS5:Hid (∀w':World,Bx w' Q #[.int .u8 p.fl.toNat,.int .u64 (p.pos:Nat),.int .u32 (p.ser:Nat),.int .u32 (p.num:Nat),.string (B p.laces),.string (B p.body)] 27→w'.cell? ⟨Q,0,none⟩=some (.int .u8 p.fl.toNat)∧w'.cell? ⟨Q,1,none⟩=some (.int .u64 (p.pos:Nat))∧w'.cell? ⟨Q,2,none⟩=some (.int .u32 (p.ser:Nat))∧w'.cell? ⟨Q,3,none⟩=some (.int .u32 (p.num:Nat))∧w'.cell? ⟨Q,4,none⟩=some (.string (B p.laces))∧w'.cell? ⟨Q,5,none⟩=some (.string (B p.body))):=Lib.hid fun w' h=>⟨h.cell 0,h.cell 1,h.cell 2,h.cell 3,h.cell 4,h.cell 5⟩
    clear p0 p1 p2 p3 p4 p5 pl m11 mf ml T0 P0;refine Zcr (fun w'=>w'.cell? ⟨Q,0,none⟩=some (.int .u8 p.fl.toNat)∧w'.cell? ⟨Q,1,none⟩=some (.int .u64 (p.pos:Nat))∧w'.cell? ⟨Q,2,none⟩=some (.int .u32 (p.ser:Nat))∧w'.cell? ⟨Q,3,none⟩=some (.int .u32 (p.num:Nat))∧w'.cell? ⟨Q,4,none⟩=some (.string (B p.laces))∧w'.cell? ⟨Q,5,none⟩=some (.string (B p.body))) (.one 0 true (.one 2 true (.two 1 3 (.one 3 false (.one 4 false (.one 5 false (.one 6 true (.one 7 false .nil))))) (.two 1 4 (.one 4 false (.one 5 false (.one 6 true (.one 7 false .nil)))) (.one 1 false (.one 5 false (.one 6 true (.one 7 false .nil)))))))) (by kernel_rfl) (by kernel_rfl) (by kernel_rfl) (Nat.le_of_ble_eq_true rfl) (fun _ _ d _ _ h=>by cases d<;>exact h) (HS5.out _ P1.out) ?_
    iterate 2 (refine' Zs rfl (by rfl) _ (fun w' hSw=>_) _;rotate_left;(obtain⟨s0,s1,s2,s3,s4,s5⟩:=hSw;go_simp;try with_reducible rfl);try simp only [Act.put,List.setIfInBounds_toArray,List.set_cons_zero,List.set_cons_succ])
    refine Zbf (Ze rfl (by rfl) (fun KK hKK=> ?_)) (Ze rfl (by rfl) (fun KK hKK=> ?_))
    · obtain⟨ml9,mw9⟩:=T1.out.c11
      go_simp
      go_wp2_with fail
      clear ml9 mw9;refine hKK.out _ _ (HS5.out _ P1.out) ?_;clear hKK KK
      try simp only [Act.put,List.setIfInBounds_toArray,List.set_cons_zero,List.set_cons_succ]
      refine Zl (Ze rfl (by rfl) (fun KK hKK=> ?_))
      go_simp
      go_at_call 27
      refine(h17p _).mono ?_;rintro e w6 ⟨rfl,hb6⟩;have T11:=Lib.hid (T1.out.below hb6);have P11:=Lib.hid (P1.out.below hb6);clear hb6;go_wp2_with fail
      refine hKK.out _ _ (HS5.out _ P11.out) ?_;clear hKK KK
      try simp only [Act.put,List.setIfInBounds_toArray,List.set_cons_zero,List.set_cons_succ]
      refine Zl (Ze rfl (by rfl) (fun KK hKK=> ?_))
      go_simp
      go_wp2_with fail
      have P12:=Lib.hid (P11.out.alloc (.cells #[.int .i64 p.fl.toNat,.int .u64 (p.pos:Nat),.int .u64 (p.ser:Nat),.int .u64 (p.num:Nat),.string (B p.laces),.string (B p.body)] 62));refine hKK.out _ _ (HS5.out _ P12.out) ?_;clear hKK KK
      try simp only [Act.put,List.setIfInBounds_toArray,List.set_cons_zero,List.set_cons_succ]
      refine Zl (Ze rfl (by rfl) (fun KK hKK=> ?_));have hz6:=T11.out.hs;refine ZfY _ _ rfl Bm (.slice A0 n0 c0') tk rfl w6 p _ rfl T11.out.own hz6 htl rfl ?_;intro v8 w8 HO8 hb8 hg8;obtain⟨A8,n8,c8,hv8⟩:=ZbG HO8.out;subst hv8;have P8:=Lib.hid (ZdG P11.out hg8 NEQ.out);have T8:=Lib.hid (T11.out.next HO8.out hb8 (by simp));have mf:=(T11.out.m.same6 hb8 hGB).free 11;have ml:=(T11.out.m.same6 hb8 hGB).lt;have mc:=(T11.out.m.same6 hb8 hGB).cell 11;clear hb8 hg8;refine hKK.out _ _ (HS5.out _ P8.out) ?_;clear hKK KK
      try simp only [Act.put,List.setIfInBounds_toArray,List.set_cons_zero,List.set_cons_succ]
      iterate 1 (refine' Zs rfl (by rfl) _ (fun w' hSw=>_) _;rotate_left;(obtain⟨s0,s1,s2,s3,s4,s5⟩:=hSw;go_simp;try with_reducible rfl);try simp only [Act.put,List.setIfInBounds_toArray,List.set_cons_zero,List.set_cons_succ])
      refine Zl (Ze rfl (by rfl) (fun KK hKK=> ?_))
      go_simp
      go_wp2_with fail
      refine hKK.out _ _ (HS5.out _ (P8.out.set hGQ 11 _)) ?_;clear hKK KK
      try simp only [Act.put,List.setIfInBounds_toArray,List.set_cons_zero,List.set_cons_succ]
      refine Zae ?_;go_wp2_with fail
      go_roundw
      case rel=>exact⟨k+1,_,by omega,by go_num,by rw [HTk.out];exact T8⟩
      case measure=>simp [intOf];omega
    · go_simp
      go_at_call 27
      refine(h17p _).mono ?_;rintro e w6 ⟨rfl,hb6⟩;have T10:=Lib.hid (T1.out.below hb6);have P10:=Lib.hid (P1.out.below hb6);clear hb6;go_wp2_with fail
      refine hKK.out _ _ (HS5.out _ P10.out) ?_;clear hKK KK
      try simp only [Act.put,List.setIfInBounds_toArray,List.set_cons_zero,List.set_cons_succ]
      refine Zbf (Ze rfl (by rfl) (fun KK hKK=> ?_)) (Ze rfl (by rfl) (fun KK hKK=> ?_))
      · obtain⟨ml13,mw13⟩:=T10.out.c11
        go_simp
        go_wp2_with fail
        clear ml13 mw13;refine hKK.out _ _ (HS5.out _ P10.out) ?_;clear hKK KK
        try simp only [Act.put,List.setIfInBounds_toArray,List.set_cons_zero,List.set_cons_succ]
        refine Zl (Ze rfl (by rfl) (fun KK hKK=> ?_))
        go_simp
        go_wp2_with fail
        have P15:=Lib.hid (P10.out.alloc (.cells #[.int .i64 p.fl.toNat,.int .u64 (p.pos:Nat),.int .u64 (p.ser:Nat),.int .u64 (p.num:Nat),.string (B p.laces),.string (B p.body)] 62));refine hKK.out _ _ (HS5.out _ P15.out) ?_;clear hKK KK
        try simp only [Act.put,List.setIfInBounds_toArray,List.set_cons_zero,List.set_cons_succ]
        refine Zl (Ze rfl (by rfl) (fun KK hKK=> ?_));have hz6:=T10.out.hs;refine ZfY _ _ rfl Bm (.slice A0 n0 c0') tk rfl w6 p _ rfl T10.out.own hz6 htl rfl ?_;intro v8 w8 HO8 hb8 hg8;obtain⟨A8,n8,c8,hv8⟩:=ZbG HO8.out;subst hv8;have P8:=Lib.hid (ZdG P10.out hg8 NEQ.out);have T8:=Lib.hid (T10.out.next HO8.out hb8 (by simp));have mf:=(T10.out.m.same6 hb8 hGB).free 11;have ml:=(T10.out.m.same6 hb8 hGB).lt;have mc:=(T10.out.m.same6 hb8 hGB).cell 11;clear hb8 hg8;refine hKK.out _ _ (HS5.out _ P8.out) ?_;clear hKK KK
        try simp only [Act.put,List.setIfInBounds_toArray,List.set_cons_zero,List.set_cons_succ]
        iterate 1 (refine' Zs rfl (by rfl) _ (fun w' hSw=>_) _;rotate_left;(obtain⟨s0,s1,s2,s3,s4,s5⟩:=hSw;go_simp;try with_reducible rfl);try simp only [Act.put,List.setIfInBounds_toArray,List.set_cons_zero,List.set_cons_succ])
        refine Zl (Ze rfl (by rfl) (fun KK hKK=> ?_))
        go_simp
        go_wp2_with fail
        refine hKK.out _ _ (HS5.out _ (P8.out.set hGQ 11 _)) ?_;clear hKK KK
        try simp only [Act.put,List.setIfInBounds_toArray,List.set_cons_zero,List.set_cons_succ]
        refine Zae ?_;go_wp2_with fail
        go_roundw
        case rel=>exact⟨k+1,_,by omega,by go_num,by rw [HTk.out];exact T8⟩
        case measure=>simp [intOf];omega
      · go_simp
        go_wp2_with fail
        have P14:=Lib.hid (P10.out.alloc (.cells #[.int .i64 p.fl.toNat,.int .u64 (p.pos:Nat),.int .u64 (p.ser:Nat),.int .u64 (p.num:Nat),.string (B p.laces),.string (B p.body)] 62));refine hKK.out _ _ (HS5.out _ P14.out) ?_;clear hKK KK
        try simp only [Act.put,List.setIfInBounds_toArray,List.set_cons_zero,List.set_cons_succ]
        refine Zl (Ze rfl (by rfl) (fun KK hKK=> ?_));obtain⟨ml16,mw16⟩:=(T10.out.below ((Below.refl _ _).alloc (Nat.le_refl _) (.cells #[.int .i64 p.fl.toNat,.int .u64 (p.pos:Nat),.int .u64 (p.ser:Nat),.int .u64 (p.num:Nat),.string (B p.laces),.string (B p.body)] 62))).c11
        go_simp
        go_wp2_with fail
        clear ml16 mw16;refine hKK.out _ _ (HS5.out _ P14.out) ?_;clear hKK KK
        try simp only [Act.put,List.setIfInBounds_toArray,List.set_cons_zero,List.set_cons_succ]
        refine Zl (Ze rfl (by rfl) (fun KK hKK=> ?_));have hz6:=T10.out.hs;refine ZfY _ _ rfl Bm (.slice A0 n0 c0') tk rfl w6 p _ rfl T10.out.own hz6 htl rfl ?_;intro v8 w8 HO8 hb8 hg8;obtain⟨A8,n8,c8,hv8⟩:=ZbG HO8.out;subst hv8;have P8:=Lib.hid (ZdG P10.out hg8 NEQ.out);have T8:=Lib.hid (T10.out.next HO8.out hb8 (by simp));have mf:=(T10.out.m.same6 hb8 hGB).free 11;have ml:=(T10.out.m.same6 hb8 hGB).lt;have mc:=(T10.out.m.same6 hb8 hGB).cell 11;clear hb8 hg8;refine hKK.out _ _ (HS5.out _ P8.out) ?_;clear hKK KK
        try simp only [Act.put,List.setIfInBounds_toArray,List.set_cons_zero,List.set_cons_succ]
        iterate 1 (refine' Zs rfl (by rfl) _ (fun w' hSw=>_) _;rotate_left;(obtain⟨s0,s1,s2,s3,s4,s5⟩:=hSw;go_simp;try with_reducible rfl);try simp only [Act.put,List.setIfInBounds_toArray,List.set_cons_zero,List.set_cons_succ])
        refine Zl (Ze rfl (by rfl) (fun KK hKK=> ?_))
        go_simp
        go_wp2_with fail
        refine hKK.out _ _ (HS5.out _ (P8.out.set hGQ 11 _)) ?_;clear hKK KK
        try simp only [Act.put,List.setIfInBounds_toArray,List.set_cons_zero,List.set_cons_succ]
        refine Zae ?_;go_wp2_with fail
        go_roundw
        case rel=>exact⟨k+1,_,by omega,by go_num,by rw [HTk.out];exact T8⟩
        case measure=>simp [intOf];omega
  · obtain rfl:k=x.sound.length:=by omega
    have F:=ST.out.m;have hrw:Zg rpL Bm wr (.slice A0 n0 c0') (x.sound.take x.sound.length):=Zg.of_own rfl ST.out.own ST.out.nil_;rw [List.take_length] at hrw;have HRW:=Lib.hid hrw;obtain⟨AV,nV,cV,hvv⟩:=Zb5 ST.out.nts;subst hvv;have hGe:=ST.out.hG;have hBe:=ST.out.hB;clear F hrw;go_wp2_with (first
     |(refine wpList_load_row rfl 70 _ rfl G rfl 70 (rsV x.first x.v vs (.slice AV nV cV) x.setup (.slice A0 n0 c0')) (0,0) _ ST.out.m Tryz.underlying70 rfl (by kernel_rfl) ?_)
     |(refine Zhu rfl 70 _ _ rfl (w.heap.size+1) Z12 (rsV x.first x.v vs (.slice AV nV cV) x.setup (.slice A0 n0 c0')) rfl rfl ST.out.res (by kernel_rfl) rfl (ZpQ _ _ _ _ _ _ _ _ _ _) fun W bW hW=> ?_;have BW:=Lib.hid bW;have HW:=Lib.hid hW;clear bW hW))
    refine bodyPost_ret (results_cell_row rfl _ _ (w.heap.size+1) _ _ _ _ rfl BW.out Tryz.underlying70 rfl (by kernel_rfl)) rfl ?_;exact HP.out _ _ _ ((ST.out.nts.but HW.out (by omega)).low (by omega)) ((HRW.out.but HW.out (by omega)).low (by omega)) (ST.out.low.trans ((HW.out.mono ST.out.low.size).below (by omega)))
end Go.Proofs.YtnbkfkbcpfkddaaGreatDoor
