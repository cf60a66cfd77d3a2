/- Lemmas for a statement on the tops; conditions: as each says. -/
import Derived.Test.YtlfinljfghhpdaaGreatDoorM39
import Derived.Test.YtlfinljfghhpdaaGreatDoorM45
set_option linter.unusedVariables false
set_option linter.unusedSimpArgs false
set_option maxRecDepth 100000
set_option maxHeartbeats 4000000
namespace Go.Proofs.YtlfinljfghhpdaaGreatDoor
open Go Go.RowKit
theorem ZeZ (a b:List UInt8):B a++B b=B (a++b):=by
 apply ByteArray.ext
 show(B a++B b).data=_
 rw [ByteArray.data_append];unfold B;simp
theorem ZrB (k:Nat):(⟨#[91,99,115,58]⟩++B (nmC k)++⟨#[93,10,91,48,48,58,48,49,46,48,48,93]⟩:ByteArray)=B (Zd k):=by
 show B [91,99,115,58]++B (nmC k)++B [93,10,91,48,48,58,48,49,46,48,48,93]=_
 rw [ZeZ,ZeZ];unfold Zd ln1 tm1;simp
theorem Zp4 (c f:UInt8)(t:List UInt8)(det:Bool)(ht:t.length≤1048576)(w:World)(hG:Ev.Gl w)(hw:Wk w):
 Calls Tryz.prog 3 #[.int .u8 c.toNat,.string (B t),.int .u8 f.toNat,.bool det] w fun e w'=>e= .returned (.bool true)∧Below w.heap.size w w':=by
 have haw:=fun wx (hb:Below w.heap.size w wx)=>Aw_top wx (hG.below hb);have hbn:=fun wx=>Zdc 0 0 rfl wx;have hc6:c.toNat % 7≤6:=by omega
 have hen:=fun wx=>Zo2 (c.toNat % 7) hc6 t (by omega) wx;have hla:=fun wx=>Zpa (c.toNat % 7) hc6 wx;have hon:=fun(h:t.length≤1000000) wx=>Zp6 t h wx;have HW:=Lib.hid hw;have hsz:=Zy t;clear hG hw;go_enter Tryz.func3,Tryz.ntmps3
 go_upto_region 4 with(go_at_call 4;refine(haw _ (Below.refl _ _)).mono ?_;clear haw;rintro e w1 ⟨rfl,hb1⟩;have L1:=Lib.hid hb1;clear hb1)
 have hcm:(c.toNat:Int) % 7=((c.toNat % 7:Nat):Int):=by omega
 rw [hcm];clear hcm;generalize c.toNat % 7=k at*;go_upto_region 5 with(go_at_call 5;refine(hen _).mono ?_;clear hen;rintro e w2 ⟨hb2,s,code,at_,rfl,hsl,hgd⟩;have L2:=Lib.hid (L1.out.trans (hb2.mono L1.out.size));have HGD:=Lib.hid hgd;clear hb2 L1 hgd)
 have hsz2:=Zy s;have hpt:∀wx,Calls Tryz.prog 6 #[.string (B s)] wx fun e w'=>∃(A:Option Addr) (n c:Nat) (a:Int),e= .returned (.tuple #[.slice A n c,.int .i64 a])∧(a<0↔Zap s=true)∧Below wx.heap.size wx w':=fun wx=>by
  rcases Zc9 s with⟨qs,hq,e⟩|⟨n,hq,e⟩
  · refine(ZgJ (B s) qs hq (by omega) wx).mono ?_;rintro e2 w' ⟨A,c,rfl,_,_,hb⟩;exact⟨A,_,c, -1,rfl,by unfold Zap;rw [e];simp,hb⟩
  · refine(ZjE (B s) n hq (by omega) wx).mono ?_;rintro e2 w' ⟨rfl,hb⟩;exact⟨none,0,0,n,rfl,by unfold Zap;rw [e];simp,hb⟩
 go_upto_region 6 with(go_at_call 6;refine(hpt _).mono ?_;clear hpt;rintro e w3 ⟨A,n,cp,a,rfl,hau,hb3⟩;have L3:=Lib.hid (L2.out.trans (hb3.mono L2.out.size));have HAU:=Lib.hid hau;clear hb3 L2 hau)
 by_cases h60:t.length≤60
 · replace hon:=hon (by omega)
   by_cases hcode:code=0
   · subst hcode;by_cases hbt:a<0∧¬(B s).toList=(B t).toList
     · obtain⟨ha,hne⟩:=hbt;have hd6:decide (60<(t.length:Int))=false:=by rw [decide_eq_false_iff_not];omega
       go_wp2_with fail
       go_ret
       exact⟨rfl,L3.out⟩
     · obtain⟨ps,hg,hte⟩:=HGD.out rfl;have hs:Zap s=true→s=t:=fun hu=>by
        have ha:=HAU.out.2 hu;have h:=Classical.byContradiction fun h=>hbt ⟨ha,h⟩
        rwa [listB,listB] at h
       have hcase:¬a<0∨a<0∧(B s).toList=(B t).toList:=by
        by_cases ha:a<0
        · exact .inr ⟨ha,Classical.byContradiction fun h=>hbt ⟨ha,h⟩⟩
        · exact .inl ha
       by_cases h1:ZdZ t=true
       · rw [h1] at hon;have HNF:Hid (∀wx,Below w.heap.size w wx→Calls Tryz.prog 9 #[.string ((⟨#[91,99,115,58]⟩++B (nmC k)++⟨#[93,10,91,48,48,58,48,49,46,48,48,93]⟩)++B s),.agg #[.int .i64 0,.int .i64 ((f.toNat:Int) % 7),.bool det,.int .i64 0]] wx fun e w'=>e= .returned (.tuple #[.string ((⟨#[91,99,115,58]⟩++B (nmC k)++⟨#[93,10,91,48,48,58,48,49,46,48,48,93]⟩)++B t),.agg #[.int .i64 0,.int .i64 0]])∧Below wx.heap.size wx w'):=Lib.hid fun wx hb=>by
          have hfr:(⟨#[91,99,115,58]⟩++B (nmC k)++⟨#[93,10,91,48,48,58,48,49,46,48,48,93]⟩:ByteArray)=B (Zd k):=ZrB k;have hfm:(f.toNat:Int) % 7=((f.toNat % 7:Nat):Int):=by omega
          rw [hfr,ZeZ,ZeZ,hfm];exact ZoB hc6 s t ps hg hte hs h60 (by omega) (by assumption) (f.toNat % 7) (by omega) det wx ⟨(HW.out.below hb).grd,(HW.out.below hb).st⟩
         have hN:(B (nmC k)).size≤20:=by rw [Zy];exact(Zch hc6).2.2.2.2.2.2
         unfold Zjq at hla;clear hbt hg hte hs HGD HAU HW;generalize B (nmC k)=N at*;generalize B s=SB at*;generalize B t=TB at*;rcases hcase with ha|⟨ha,hst⟩
         · go_upto_region 8 with(go_at_call 7;refine(hon _).mono ?_;clear hon;rintro e w4 ⟨rfl,hb4⟩;have L4:=Lib.hid (L3.out.trans (hb4.mono L3.out.size));clear hb4 L3)
           go_upto_region 9 with(go_at_call 8;refine(hla _).mono ?_;clear hla;rintro e w5 ⟨hb5,K,n2,cp2,rfl,hn2,hcl⟩;have L5:=Lib.hid (L4.out.trans (hb5.mono L4.out.size));clear hb5 L4)
           have hnf:=fun wx hb=>HNF.out wx (L5.out.trans (Below.mono hb L5.out.size));go_upto_region 10 with(go_at_call 9;refine(hnf _ (Below.refl _ _)).mono ?_;clear hnf;rintro e w6 ⟨rfl,hb6⟩;have L6:=Lib.hid (L5.out.trans (hb6.mono L5.out.size));clear hb6 L5)
           go_wp2_with (go_at_call 10;refine(hbn _).mono ?_;rintro e w7 ⟨rfl,hb7⟩;have L7:=Lib.hid ((L6.out.alloc L6.out.size _).trans (hb7.mono (Nat.le_trans L6.out.size (by simp))));clear hb7 L6)
           go_ret
           exact⟨rfl,L7.out⟩
         · go_upto_region 8 with(go_at_call 7;refine(hon _).mono ?_;clear hon;rintro e w4 ⟨rfl,hb4⟩;have L4:=Lib.hid (L3.out.trans (hb4.mono L3.out.size));clear hb4 L3)
           go_upto_region 9 with(go_at_call 8;refine(hla _).mono ?_;clear hla;rintro e w5 ⟨hb5,K,n2,cp2,rfl,hn2,hcl⟩;have L5:=Lib.hid (L4.out.trans (hb5.mono L4.out.size));clear hb5 L4)
           have hnf:=fun wx hb=>HNF.out wx (L5.out.trans (Below.mono hb L5.out.size));go_upto_region 10 with(go_at_call 9;refine(hnf _ (Below.refl _ _)).mono ?_;clear hnf;rintro e w6 ⟨rfl,hb6⟩;have L6:=Lib.hid (L5.out.trans (hb6.mono L5.out.size));clear hb6 L5)
           go_wp2_with (go_at_call 10;refine(hbn _).mono ?_;rintro e w7 ⟨rfl,hb7⟩;have L7:=Lib.hid ((L6.out.alloc L6.out.size _).trans (hb7.mono (Nat.le_trans L6.out.size (by simp))));clear hb7 L6)
           go_ret
           exact⟨rfl,L7.out⟩
       · rw [Bool.not_eq_true] at h1;rw [h1] at hon;rcases hcase with ha|⟨ha,hst⟩
         · go_wp2_with (go_at_call 7;refine(hon _).mono ?_;clear hon;rintro e w4 ⟨rfl,hb4⟩;have L4:=Lib.hid (L3.out.trans (hb4.mono L3.out.size));clear hb4 L3)
           go_ret
           exact⟨rfl,L4.out⟩
         · go_wp2_with (go_at_call 7;refine(hon _).mono ?_;clear hon;rintro e w4 ⟨rfl,hb4⟩;have L4:=Lib.hid (L3.out.trans (hb4.mono L3.out.size));clear hb4 L3)
           go_ret
           exact⟨rfl,L4.out⟩
   · go_wp2_with fail
     go_ret
     exact⟨rfl,L3.out⟩
 · go_wp2_with fail
   go_ret
   exact⟨rfl,L3.out⟩
end Go.Proofs.YtlfinljfghhpdaaGreatDoor
