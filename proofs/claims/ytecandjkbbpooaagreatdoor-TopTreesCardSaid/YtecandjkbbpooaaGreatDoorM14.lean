/- Lemmas for a statement on the tops; conditions: as each says. -/
import Derived.Deep.DeepCutAuto
import Derived.Test.YtecandjkbbpooaaGreatDoorM13
set_option linter.unusedVariables false
set_option linter.unusedSimpArgs false
set_option maxRecDepth 100000
set_option maxHeartbeats 4000000
namespace Go.Proofs.YtecandjkbbpooaaGreatDoor
open Go Go.RowKit
def PtRel (t:List UInt8)(w0:World)(v i:Value)(wr:World):Prop:=∃(k:Nat) (out:List UInt8),k≤t.length∧i= .int .i64 k∧ZR t=out++ZR (t.drop k)∧
 wr.ownsRow w0.heap.size 5 1 v out.length (out.map u8V)∧Below w0.heap.size w0 wr
theorem Zju (t:List UInt8)(ht:t.length≤1000000000)(w:World):
 Calls Tryz.prog 152 #[.string (B t)] w fun e w'=>e= .returned (.string (B (ZR t)))∧Below w.heap.size w w':=by
 obtain⟨i0,hi,iz0,iz1,iz2⟩:=info_parts Zd5;have hsz:=Zl t;have hel:=Zdh t;have hpl:=ZdX t;have hex:=fun w=>ZgW t ht w;have hple:(ZR t).length≤2000000000:=by omega
 have Hple:=Lib.hid hple;clear hpl hple;generalize ZaE t=E at*;go_enter Tryz.func152,Tryz.ntmps152
 go_wp2_with (first|(go_at_call 151;refine(hex _).mono ?_;rintro e w1 ⟨rfl,rfl⟩)|(at_make;refine wpList_make_own _ rfl _ _ 150 rfl w.heap.size 5 i0 (.int .u8 0) 1 Tryz.underlying150 hi iz0 iz1 .i64 .i64 ((t.length:Int)+E) (t.length+E) rfl rfl (by omega) (by rw [iz2];omega) (by unfold maxLen;omega) (Nat.le_refl _) ?_;intro w1 hown1 hg1))
 have hB1:Below w.heap.size w w1:=(Below.refl _ w).grown hg1 (Nat.le_refl _) (fun k h=>by cases h);go_loopw [3,13] (fun v i wr=>PtRel t w v i wr) (fun _ i _=>t.length - (intOf i).toNat)
 case atStart=>exact⟨0,[],by omega,rfl,by simp,hown1,hB1⟩
 case round=>
  obtain⟨k,out,hk,rfl,he,hown,hb⟩:=hrel;have hz:=hb.size;by_cases hlt:k<t.length
  · have hst:=ZsJ t k hlt;have hg:=Zbc t k hlt;have hol:out.length≤2000000000:=by
     have:=Hple.out;rw [he,List.length_append] at this;omega
    have hlk:=fun w=>Zjf t k hlt ht w;by_cases hl:looksAt t k=true
    · rw [hl] at hlk hst;rw [if_pos rfl] at hst;have he2:ZR t=(out++[t[k]]++[0])++ZR (t.drop (k+1)):=by rw [he,hst];simp
      have He2:=Lib.hid he2;clear he he2 hst hl;go_wp2_with (first|(go_at_call 229;refine(hlk _).mono ?_;rintro e w1 ⟨rfl,rfl⟩)|(at_builtin;refine ZdJ rfl _ _ rfl w.heap.size u3 out rfl wr _ _ rfl hown (by omega) (by omega) rfl ?_;intro v6 w6 HO6 hb6;have HB6:=Lib.hid (hb.trans hb6);have hz6:=HB6.out.size;clear hb6 hown)|(at_builtin;refine ZdJ rfl _ _ rfl w.heap.size v6 (out++[t[k]]) rfl w6 0 _ rfl HO6.out (by omega) (by simp;omega) rfl ?_;intro v7 w7 HO7 hb7;have HB7:=Lib.hid (HB6.out.trans hb7);clear hb7))
      go_roundw
      case rel=>exact⟨k+1,_,by omega,by go_num,He2.out,HO7.out,HB7.out⟩
      case measure=>simp [intOf];omega
    · have hl':looksAt t k=false:=by simpa using hl
      rw [hl'] at hlk hst;rw [if_neg (by decide)] at hst;have he2:ZR t=(out++[t[k]])++ZR (t.drop (k+1)):=by rw [he,hst];simp
      have He2:=Lib.hid he2;clear he he2 hst hl hl';go_wp2_with (first|(go_at_call 229;refine(hlk _).mono ?_;rintro e w1 ⟨rfl,rfl⟩)|(at_builtin;refine ZdJ rfl _ _ rfl w.heap.size u3 out rfl wr _ _ rfl hown (by omega) (by omega) rfl ?_;intro v6 w6 HO6 hb6;have HB6:=Lib.hid (hb.trans hb6);clear hb6 hown))
      go_roundw
      case rel=>exact⟨k+1,_,by omega,by go_num,He2.out,HO6.out,HB6.out⟩
      case measure=>simp [intOf];omega
  · have hk2:k=t.length:=by omega
    subst hk2;rw [List.drop_length,ZR,List.append_nil] at he;have He:=Lib.hid he;have hcv:=Ze6 wr hown;clear he hown;go_wp2_with fail
    go_ret
    exact⟨by rw [He.out];rfl,hb⟩
def ZbR (t:List UInt8)(k:Nat):Bool:=decide (0<k)&&(t[k - 1]? ==some 255)
def DrRel (t:List UInt8)(w0:World)(v i:Value)(wr:World):Prop:=∃(k:Nat) (out:List UInt8),k≤t.length∧i= .int .i64 k∧out.length≤k∧ZV false t=out++ZV (ZbR t k) (t.drop k)∧
 wr.ownsRow w0.heap.size 5 1 v out.length (out.map u8V)∧Below w0.heap.size w0 wr
theorem ZqL (t:List UInt8)(k:Nat)(h:k<t.length):ZbR t (k+1)=(t[k]==255):=by
 simp [ZbR,h]
theorem Zi3 (t:List UInt8)(ht:t.length≤1000000000)(w:World):
 Calls Tryz.prog 102 #[.string (B t)] w fun e w'=>e= .returned (.string (B (ZV false t)))∧Below w.heap.size w w':=by
 obtain⟨i0,hi,iz0,iz1,iz2⟩:=info_parts Zd5;have hsz:=Zl t;go_enter Tryz.func102,Tryz.ntmps102
 go_wp2_with (at_make;refine wpList_make_own _ rfl _ _ 150 rfl w.heap.size 5 i0 (.int .u8 0) 1 Tryz.underlying150 hi iz0 iz1 .i64 .i64 (t.length:Int) t.length rfl rfl rfl (by rw [iz2];omega) (by unfold maxLen;omega) (Nat.le_refl _) ?_;intro w1 hown1 hg1)
 have hB1:Below w.heap.size w w1:=(Below.refl _ w).grown hg1 (Nat.le_refl _) (fun k h=>by cases h);go_loopw [3,10] (fun v i wr=>DrRel t w v i wr) (fun _ i _=>t.length - (intOf i).toNat)
 case atStart=>exact⟨0,[],by omega,rfl,by simp,by simp [ZbR],hown1,hB1⟩
 case round=>
  obtain⟨k,out,hk,rfl,hol,he,hown,hb⟩:=hrel;have hz:=hb.size;by_cases hlt:k<t.length
  · have hst:=Zqg (ZbR t k) t k hlt;have hfs:=ZqL t k hlt;have hg:=Zbc t k hlt;by_cases hx:t[k]=0
    · have hx0:(t[k].toNat:Int)=0:=by rw [hx];rfl
      by_cases hf:ZbR t k=true
      · have hk0:0<k:=by
         simp only [ZbR,Bool.and_eq_true,decide_eq_true_eq] at hf;exact hf.1
        have hp:t[k - 1]'(by omega)=255:=by
         simp only [ZbR,Bool.and_eq_true,decide_eq_true_eq] at hf;have:=hf.2;rw [List.getElem?_eq_getElem (by omega)] at this;simpa using this
        have hg2:=Zbc t (k - 1) (by omega);have hp0:((t[k - 1]'(by omega)).toNat:Int)=255:=by rw [hp];rfl
        have he2:ZV false t=out++ZV (ZbR t (k+1)) (t.drop (k+1)):=by
         rw [he,hst,hf,hx,hfs,hx];rfl
        have He2:=Lib.hid he2;clear he he2 hst hfs hx hf hp;go_wp2_with fail
        go_roundw
        case rel=>exact⟨k+1,out,by omega,by go_num,by omega,He2.out,hown,hb⟩
        case measure=>simp [intOf];omega
      · have hf':ZbR t k=false:=by simpa using hf
        have he2:ZV false t=(out++[t[k]])++ZV (ZbR t (k+1)) (t.drop (k+1)):=by
         rw [he,hst,hf',hx,hfs,hx];simp
        have He2:=Lib.hid he2;by_cases hk0:k=0
        · subst hk0;clear he he2 hst hfs hx hf hf';go_wp2_with (at_builtin;refine ZdJ rfl _ _ rfl w.heap.size u3 out rfl wr (t[0]) _ (by first|rfl|simp [u8V,hx0]) hown (by omega) (by omega) rfl ?_;intro v6 w6 HO6 hb6;have HB6:=Lib.hid (hb.trans hb6);clear hb6 hown)
          go_roundw
          case rel=>exact⟨0+1,_,by omega,by go_num,by rw [List.length_append,List.length_singleton];omega,He2.out,HO6.out,HB6.out⟩
          case measure=>show t.length - (intOf (.int .i64 (0+1))).toNat<t.length - (intOf (.int .i64 0)).toNat;simp only [intOf];omega
        · have hp:(t[k - 1]'(by omega))≠255:=by
           intro e;simp only [ZbR,Bool.and_eq_false_iff,decide_eq_false_iff_not] at hf';rcases hf' with h|h
           · omega
           · rw [List.getElem?_eq_getElem (by omega),e] at h;simp at h
          have hp0:(((t[k - 1]'(by omega)).toNat:Int)==255)=false:=by rw [beq_eq_false_iff_ne];exact fun e=>hp (UInt8.toNat_inj.1 (by show(t[k - 1]'(by omega)).toNat=255;omega))
          have hg2:=Zbc t (k - 1) (by omega);have hk1:0<k:=by omega
          clear he he2 hst hfs hx hf hf' hp hk0;go_wp2_with (at_builtin;refine ZdJ rfl _ _ rfl w.heap.size u3 out rfl wr (t[k]) _ (by first|rfl|simp [u8V,hx0]) hown (by omega) (by omega) rfl ?_;intro v6 w6 HO6 hb6;have HB6:=Lib.hid (hb.trans hb6);clear hb6 hown)
          go_roundw
          case rel=>exact⟨k+1,_,by omega,by go_num,by simp;omega,He2.out,HO6.out,HB6.out⟩
          case measure=>simp [intOf];omega
    · have hx0:((t[k].toNat:Int)==0)=false:=by rw [beq_eq_false_iff_ne];exact fun e=>hx (UInt8.toNat_inj.1 (by show t[k].toNat=0;omega))
      have he2:ZV false t=(out++[t[k]])++ZV (ZbR t (k+1)) (t.drop (k+1)):=by
       rw [he,hst,hfs,show(t[k]==0)=false by simpa using hx];simp
      have He2:=Lib.hid he2;clear he he2 hst hfs hx;go_wp2_with (at_builtin;refine ZdJ rfl _ _ rfl w.heap.size u3 out rfl wr (t[k]) _ rfl hown (by omega) (by omega) rfl ?_;intro v6 w6 HO6 hb6;have HB6:=Lib.hid (hb.trans hb6);clear hb6 hown)
      go_roundw
      case rel=>exact⟨k+1,_,by omega,by go_num,by simp;omega,He2.out,HO6.out,HB6.out⟩
      case measure=>simp [intOf];omega
  · have hk2:k=t.length:=by omega
    subst hk2;rw [List.drop_length,ZV,List.append_nil] at he;have He:=Lib.hid he;have hcv:=Ze6 wr hown;clear he hown;go_wp2_with fail
    go_ret
    exact⟨by rw [He.out];rfl,hb⟩
theorem Zcd (m:UInt8)(z:Int)(c:UInt8)(hz:z=c.toNat):bits .and .u8 (m.toNat:Int) z=((m&&&c).toNat:Int):=by
 subst hz;have:=(bits_nat .u8 8 (by decide) (fun n h0 h1=>by rw [IntKind.wrap_u8];omega) m.toNat c.toNat m.toNat_lt c.toNat_lt).1;rw [this,UInt8.toNat_and]
theorem or_u8 (m:UInt8)(z:Int)(c:UInt8)(hz:z=c.toNat):bits .or .u8 (m.toNat:Int) z=((m|||c).toNat:Int):=by
 subst hz;have:=(bits_nat .u8 8 (by decide) (fun n h0 h1=>by rw [IntKind.wrap_u8];omega) m.toNat c.toNat m.toNat_lt c.toNat_lt).2;rw [this,UInt8.toNat_or]
theorem Zdk (x:UInt8):((x.toNat:Int) !=0)=(x !=0):=by
 by_cases h:x=0
 · subst h;rfl
 · have h1:x.toNat≠0:=fun e=>h (UInt8.toNat_inj.1 e);rw [show(x !=0)=true by simpa using h,bne_iff_ne];omega
theorem Zc2 (m c:UInt8)(k:Nat)(hk:c.toNat=k):(((m.toNat&&&k:Nat):Int) !=0)=(m&&&c !=0):=by
 subst hk;have:=Zdk (m&&&c);rwa [UInt8.toNat_and] at this
theorem ZrP (m:UInt8):((m.toNat:Int) % 2 !=0)=(m&&&1 !=0):=by
 have:=Zc2 m 1 1 rfl;rw [Nat.and_one_is_mod] at this;rw [←this];rfl
theorem ZeU (v:Int)(w:World):Calls Tryz.prog 147 #[.int .i64 v] w fun e w'=>e= .returned (.int .i64 (Zx v.toNat))∧w=w':=by
 by_cases h2:v=2
 · subst h2;go_enter Tryz.func147,Tryz.ntmps147
   go_wp2_with fail
   go_ret
   exact⟨rfl,rfl⟩
 · by_cases h3:v=3
   · subst h3;go_enter Tryz.func147,Tryz.ntmps147
     go_wp2_with fail
     go_ret
     exact⟨rfl,rfl⟩
   · by_cases h4:v=4
     · subst h4;go_enter Tryz.func147,Tryz.ntmps147
       go_wp2_with fail
       go_ret
       exact⟨rfl,rfl⟩
     · have e2:(v==2)=false:=by simpa using h2
       have e3:(v==3)=false:=by simpa using h3
       have e4:(v==4)=false:=by simpa using h4
       have hl:Zx v.toNat=0:=by
        unfold Zx;rw [if_neg (by omega),if_neg (by omega)]
       have Hl:=Lib.hid hl;clear hl;go_enter Tryz.func147,Tryz.ntmps147
       go_wp2_with fail
       go_ret
       exact⟨ZbU (by rw [Hl.out];rfl),rfl⟩
theorem ZrF {v:Int} (m:UInt8)(h3:v≠3)(h4:v≠4):ZJ v.toNat m=false:=by
 unfold ZJ;have e3:(v.toNat==3)=false:=by rw [beq_eq_false_iff_ne];omega
 have e4:(v.toNat==4)=false:=by rw [beq_eq_false_iff_ne];omega
 rw [e3,e4];rfl
theorem Zdc (id:ByteArray)(st m:UInt8)(v:Int)(w:World):
 Calls Tryz.prog 43 #[.agg #[.string id,.int .u8 st.toNat,.int .u8 m.toNat],.int .i64 v] w fun e w'=>e= .returned (.bool (ZJ v.toNat m))∧Below w.heap.size w w':=by
 by_cases h3:v=3
 · subst h3;have hb:=Zcd m 192 192 rfl;have HN:=Lib.hid (Zc2 m 192 192 rfl);have hl:ZJ (3:Int).toNat m=(m&&&192 !=0):=by simp [ZJ]
   rw [hl];go_enter Tryz.func43,Tryz.ntmps43
   go_wp2_with fail
   go_ret
   exact⟨Zc5 HN.out,(Below.refl _ w).alloc (Nat.le_refl _) _⟩
 · by_cases h4:v=4
   · subst h4;have hb:=Zcd m 12 12 rfl;have HN:=Lib.hid (Zc2 m 12 12 rfl);have hl:ZJ (4:Int).toNat m=(m&&&12 !=0):=by simp [ZJ]
     rw [hl];go_enter Tryz.func43,Tryz.ntmps43
     go_wp2_with fail
     go_ret
     exact⟨Zc5 HN.out,(Below.refl _ w).alloc (Nat.le_refl _) _⟩
   · have e3:(v==3)=false:=by simpa using h3
     have e4:(v==4)=false:=by simpa using h4
     rw [ZrF m h3 h4];go_enter Tryz.func43,Tryz.ntmps43
     go_wp2_with fail
     go_ret
     exact⟨rfl,(Below.refl _ w).alloc (Nat.le_refl _) _⟩
theorem ZfL (id:ByteArray)(st m:UInt8)(v:Int)(w:World):
 Calls Tryz.prog 224 #[.agg #[.string id,.int .u8 st.toNat,.int .u8 m.toNat],.int .i64 v] w fun e w'=>e= .returned (.bool (Z7 v.toNat m))∧Below w.heap.size w w':=by
 have hlk:=fun w=>Zdc id st m v w;by_cases hL:ZJ v.toNat m=true
 · have hg:Z7 v.toNat m=false:=by unfold Z7;rw [hL];rfl
   rw [hL] at hlk;rw [hg];clear hL hg;go_enter Tryz.func224,Tryz.ntmps224
   go_wp2_with (go_at_call 43;refine(hlk _).mono ?_;rintro e w1 ⟨rfl,hb1⟩)
   go_ret
   exact⟨rfl,Ze hb1⟩
 · have hL':ZJ v.toNat m=false:=by simpa using hL
   rw [hL'] at hlk;by_cases h3:v=3
   · subst h3;have hb:=Zcd m 32 32 rfl;have HN:=Lib.hid (Zc2 m 32 32 rfl);have hl:Z7 (3:Int).toNat m=(m&&&32 !=0):=by
      unfold Z7;rw [hL'];simp
     rw [hl];clear hl hL hL';go_enter Tryz.func224,Tryz.ntmps224
     go_wp2_with (go_at_call 43;refine(hlk _).mono ?_;rintro e w1 ⟨rfl,hb1⟩;obtain⟨c0,c1,c2,f0,f1,f2,hlt⟩:=bx3' hb1)
     go_ret
     exact⟨Zc5 HN.out,Ze hb1⟩
   · by_cases h4:v=4
     · subst h4;have hb:=Zcd m 64 64 rfl;have HN:=Lib.hid (Zc2 m 64 64 rfl);have hl:Z7 (4:Int).toNat m=(m&&&64 !=0):=by
        unfold Z7;rw [hL'];simp
       rw [hl];clear hl hL hL';go_enter Tryz.func224,Tryz.ntmps224
       go_wp2_with (go_at_call 43;refine(hlk _).mono ?_;rintro e w1 ⟨rfl,hb1⟩;obtain⟨c0,c1,c2,f0,f1,f2,hlt⟩:=bx3' hb1)
       go_ret
       exact⟨Zc5 HN.out,Ze hb1⟩
     · have e3:(v==3)=false:=by simpa using h3
       have e4:(v==4)=false:=by simpa using h4
       have n3:(v.toNat==3)=false:=by rw [beq_eq_false_iff_ne];omega
       have n4:(v.toNat==4)=false:=by rw [beq_eq_false_iff_ne];omega
       have hg:Z7 v.toNat m=false:=by unfold Z7;rw [n3,n4];simp
       rw [hg];clear hL hL' hg n3 n4;go_enter Tryz.func224,Tryz.ntmps224
       go_wp2_with (go_at_call 43;refine(hlk _).mono ?_;rintro e w1 ⟨rfl,hb1⟩)
       go_ret
       exact⟨rfl,Ze hb1⟩
theorem Zg1 (id:ByteArray)(st m:UInt8)(v:Int)(w:World):
 Calls Tryz.prog 227 #[.agg #[.string id,.int .u8 st.toNat,.int .u8 m.toNat],.int .i64 v] w fun e w'=>e= .returned (.bool (Zap v.toNat m))∧Below w.heap.size w w':=by
 by_cases h4:v=4
 · subst h4;have hlk:=fun w=>Zdc id st m 4 w;by_cases hL:ZJ (4:Int).toNat m=true
   · have hg:Zap (4:Int).toNat m=false:=by unfold Zap;rw [hL];simp
     rw [hL] at hlk;rw [hg];clear hL hg;go_enter Tryz.func227,Tryz.ntmps227
     go_wp2_with (go_at_call 43;refine(hlk _).mono ?_;rintro e w1 ⟨rfl,hb1⟩)
     go_ret
     exact⟨rfl,Ze hb1⟩
   · have hL':ZJ (4:Int).toNat m=false:=by simpa using hL
     rw [hL'] at hlk;have hb:=Zcd m 1 1 rfl;have HN:=Lib.hid (ZrP m);have hl:Zap (4:Int).toNat m=(m&&&1 !=0):=by
      unfold Zap;rw [hL'];simp
     rw [hl];clear hl hL hL';go_enter Tryz.func227,Tryz.ntmps227
     go_wp2_with (go_at_call 43;refine(hlk _).mono ?_;rintro e w1 ⟨rfl,hb1⟩;obtain⟨c0,c1,c2,f0,f1,f2,hlt⟩:=bx3' hb1)
     go_ret
     exact⟨Zc5 HN.out,Ze hb1⟩
 · have e4:(v==4)=false:=by simpa using h4
   have n4:(v.toNat==4)=false:=by rw [beq_eq_false_iff_ne];omega
   have hg:Zap v.toNat m=false:=by unfold Zap;rw [n4];rfl
   rw [hg];clear hg n4;go_enter Tryz.func227,Tryz.ntmps227
   go_wp2_with fail
   go_ret
   exact⟨rfl,(Below.refl _ w).alloc (Nat.le_refl _) _⟩
theorem ZgX (id:ByteArray)(st m:UInt8)(v:Int)(w:World):
 Calls Tryz.prog 228 #[.agg #[.string id,.int .u8 st.toNat,.int .u8 m.toNat],.int .i64 v] w fun e w'=>e= .returned (.bool (ZaG v.toNat m))∧Below w.heap.size w w':=by
 by_cases h4:v=4
 · subst h4;have hlk:=fun w=>Zdc id st m 4 w;by_cases hL:ZJ (4:Int).toNat m=true
   · have hg:ZaG (4:Int).toNat m=false:=by unfold ZaG;rw [hL];simp
     rw [hL] at hlk;rw [hg];clear hL hg;go_enter Tryz.func228,Tryz.ntmps228
     go_wp2_with (go_at_call 43;refine(hlk _).mono ?_;rintro e w1 ⟨rfl,hb1⟩)
     go_ret
     exact⟨rfl,Ze hb1⟩
   · have hL':ZJ (4:Int).toNat m=false:=by simpa using hL
     rw [hL'] at hlk;have hb:=Zcd m 2 2 rfl;have HN:=Lib.hid (Zc2 m 2 2 rfl);have hl:ZaG (4:Int).toNat m=(m&&&2 !=0):=by
      unfold ZaG;rw [hL'];simp
     rw [hl];clear hl hL hL';go_enter Tryz.func228,Tryz.ntmps228
     go_wp2_with (go_at_call 43;refine(hlk _).mono ?_;rintro e w1 ⟨rfl,hb1⟩;obtain⟨c0,c1,c2,f0,f1,f2,hlt⟩:=bx3' hb1)
     go_ret
     exact⟨Zc5 HN.out,Ze hb1⟩
 · have e4:(v==4)=false:=by simpa using h4
   have n4:(v.toNat==4)=false:=by rw [beq_eq_false_iff_ne];omega
   have hg:ZaG v.toNat m=false:=by unfold ZaG;rw [n4];rfl
   rw [hg];clear hg n4;go_enter Tryz.func228,Tryz.ntmps228
   go_wp2_with fail
   go_ret
   exact⟨rfl,(Below.refl _ w).alloc (Nat.le_refl _) _⟩
theorem ZpJ (c:UInt8):Zct c=(!((decide ((c.toNat:Int)<65)||decide ((c.toNat:Int)>90))&&(decide ((c.toNat:Int)<48)||decide ((c.toNat:Int)>57)))):=by
 unfold Zct Zku;rw [Bool.eq_iff_iff];simp;omega
theorem ZiQ (t:List UInt8):∀k,k≤t.length→(∀j (h:j<t.length),j<k→Zct t[j]=true)→Zal t=k+Zal (t.drop k)
 |0,_,_=>by simp
 |k+1,hk,h=>by
  rw [ZiQ t k (by omega) (fun j hj hjk=>h j hj (by omega)),List.drop_eq_getElem_cons (show k<t.length by omega),Zal,if_pos (h k (by omega) (by omega))];omega
def WrRel (t:List UInt8)(i:Value):Prop:=∃k:Nat,k≤t.length∧i= .int .i64 k∧∀j (h:j<t.length),j<k→Zct t[j]=true
theorem ZjN (t:List UInt8)(ht:t.length≤1000000000)(w:World):
 Calls Tryz.prog 255 #[.string (B t)] w fun e w'=>e= .returned (.int .i64 (Zal t))∧w=w':=by
 have hsz:=Zl t;go_enter Tryz.func255,Tryz.ntmps255
 go_wp2_with fail
 go_loop [7] (fun i=>WrRel t i) (fun i=>t.length - (intOf i).toNat)
 case atStart=>exact⟨0,by omega,rfl,fun j _ h=>by omega⟩
 case round=>
  obtain⟨k,hk,rfl,hok⟩:=hrel;have Hok:=Lib.hid hok;clear hok;by_cases hlt:k<t.length
  · have hg:=Zbc t k hlt;have hcb:=ZpJ t[k];by_cases hc:Zct t[k]=true
    · rw [hc] at hcb;have Hc:=Lib.hid hc;have Hcb:(48≤(t[k].toNat:Int)∧(t[k].toNat:Int)≤57)∨(65≤(t[k].toNat:Int)∧(t[k].toNat:Int)≤90):=by
       simp at hcb;omega
      clear hc hcb;rcases Hcb with⟨q1,q2⟩|⟨q1,q2⟩
      · go_wp2_with fail
        go_round
        case rel=>
         refine⟨k+1,by omega,by go_num,fun j hj hjk=> ?_⟩;by_cases e:j=k
         · subst e;exact Hc.out
         · exact Hok.out j hj (by omega)
        case measure=>simp [intOf];omega
      · go_wp2_with fail
        go_round
        case rel=>
         refine⟨k+1,by omega,by go_num,fun j hj hjk=> ?_⟩;by_cases e:j=k
         · subst e;exact Hc.out
         · exact Hok.out j hj (by omega)
        case measure=>simp [intOf];omega
    · have hc':Zct t[k]=false:=by simpa using hc
      have hw:Zal t=k:=by
       rw [ZiQ t k hk Hok.out,List.drop_eq_getElem_cons hlt,Zal,if_neg (by simpa using hc)];rfl
      have HW:=Lib.hid hw;rw [hc'] at hcb;have Hcb:(t[k].toNat:Int)<48∨(57<(t[k].toNat:Int)∧(t[k].toNat:Int)<65)∨90<(t[k].toNat:Int):=by
       simp at hcb;omega
      clear hc hcb hc' hw;rcases Hcb with q1|⟨q1,q2⟩|q1
      all_goals
       go_wp2_with fail
       go_ret
       exact⟨ZbU (by rw [HW.out]),rfl⟩
  · have hk2:k=t.length:=by omega
    subst hk2;have hw:Zal t=t.length:=by
     rw [ZiQ t _ hk Hok.out,List.drop_length];rfl
    have HW:=Lib.hid hw;clear hw;go_wp2_with fail
    go_ret
    exact⟨ZbU (by rw [HW.out]),rfl⟩
theorem seqB (l m:List UInt8):((B l).toList==m)=(l==m):=by rw [ByteArray.toList_eq,ZaA]
theorem ZhY (l:List UInt8):(B l).toList=l:=by rw [ByteArray.toList_eq,ZaA]
theorem Zcs (s:InS)(k:Nat)(hk:k≤8):(s.big k).1<256^k:=by
 unfold InS.big;simp only [Nat.min_eq_left hk];have h1:=Zd4 s k;have h2:=(InS.bigN_lt (s.take k).1 (by omega)).1;exact Nat.lt_of_lt_of_le h2 (Nat.pow_le_pow_right (by decide) h1)
theorem ZgC (s:InS):s.safe.1<268435456:=by
 have hs:s.safe=match InS.high (s.take 4).1 with
  |some i=>(0,(s.take 4).2.fail 1 ((s.take 4).2.place ((s.take 4).2.n - (s.take 4).1.length+i)))
  |none=>(Za1 (s.take 4).1,(s.take 4).2):=rfl
 rw [hs];clear hs;have h1:=Zd4 s 4;generalize (s.take 4).1=L at*;cases hh:InS.high L with
 |some i=>simp
 |none=>
  simp only;have hall:∀j (h:j<L.length),j<L.length→L[j].toNat<128:=by
   intro j hj _;refine Classical.byContradiction fun hx=> ?_;have:∀(l:List UInt8) (j:Nat) (h:j<l.length),128≤l[j].toNat→InS.high l≠none:=by
    intro l;induction l with
    |nil=>intro j h;simp at h
    |cons a r ih=>
     intro j h hx;unfold InS.high;by_cases ha:128≤a.toNat
     · rw [if_pos ha];simp
     · rw [if_neg ha];cases j with
       |zero=>simp at hx;omega
       |succ j=>have:=ih j (by simpa using h) (by simpa using hx);simpa using this
   exact this L j hj (by omega) hh
  have h2:=InS.safeN_lt L L.length (Nat.le_refl _) hall;rw [List.take_length] at h2;have h3:(128:Nat)^L.length≤128^4:=Nat.pow_le_pow_right (by decide) h1;have h4:(128:Nat)^4=268435456:=by decide
  omega
theorem ZoT (K:Nat)(s:InS)(v:Int)(w:World)(h:InAt w K s):
 Calls Tryz.prog 256 #[.int .i64 v,.pointer (some ⟨K,0,none⟩)] w (Zf K w (.int .i64 ((ZbT v.toNat s).1:Nat)) (ZbT v.toNat s).2):=by
 have H:=Lib.hid h;by_cases h2:v=2
 · subst h2;have hs:ZbT (2:Int).toNat s=s.big 3:=rfl;rw [hs];have hlt:=Zcs s 3 (by omega);have hlt2:(256:Nat)^3=16777216:=by decide
   rw [hlt2] at hlt;have hb:=fun w h=>ZcN K s 3 (by omega) w h;unfold Zf at hb;generalize hP:Zf K w (.int .i64 ((s.big 3).1:Nat)) (s.big 3).2=P at*;generalize (s.big 3).1=N at*;generalize (s.big 3).2=s2 at*;clear h hlt2 hs;go_enter Tryz.func256,Tryz.ntmps256
   go_wp2_with (go_at_call 56;refine(hb _ H.out).mono ?_;rintro e w1 ⟨rfl,h1,hb1⟩)
   show P (.returned (.int .i64 N)) _
   rw [←hP];exact⟨rfl,h1,hb1⟩
 · by_cases h3:v=3
   · subst h3;have hs:ZbT (3:Int).toNat s=s.big 4:=rfl;rw [hs];have hlt:=Zcs s 4 (by omega);have hlt2:(256:Nat)^4=4294967296:=by decide
     rw [hlt2] at hlt;have hb:=fun w h=>ZcN K s 4 (by omega) w h;unfold Zf at hb;generalize hP:Zf K w (.int .i64 ((s.big 4).1:Nat)) (s.big 4).2=P at*;generalize (s.big 4).1=N at*;generalize (s.big 4).2=s2 at*;clear h hlt2 hs;go_enter Tryz.func256,Tryz.ntmps256
     go_wp2_with (go_at_call 56;refine(hb _ H.out).mono ?_;rintro e w1 ⟨rfl,h1,hb1⟩)
     show P (.returned (.int .i64 N)) _
     rw [←hP];exact⟨rfl,h1,hb1⟩
   · have hs:ZbT v.toNat s=s.safe:=by
      unfold ZbT;rw [if_neg (by omega),if_neg (by omega)]
     rw [hs];have e2:(v==2)=false:=by simpa using h2
     have e3:(v==3)=false:=by simpa using h3
     have hb:=fun w h=>ZfP K s w h;unfold Zf at hb;generalize hP:Zf K w (.int .i64 ((s.safe).1:Nat)) (s.safe).2=P at*;generalize (s.safe).1=N at*;generalize (s.safe).2=s2 at*;clear h hs;go_enter Tryz.func256,Tryz.ntmps256
     go_wp2_with (go_at_call 100;refine(hb _ H.out).mono ?_;rintro e w1 ⟨rfl,h1,hb1⟩)
     show P (.returned (.int .i64 N)) _
     rw [←hP];exact⟨rfl,h1,hb1⟩
def six (f:Fr):Array Value:=#[.string (B f.id),.int .u8 f.st.toNat,.int .u8 f.fm.toNat,.int .u8 f.grp.toNat,.string (B f.body),.int .i64 f.at_]
def Zp (w:World)(F:Nat)(f:Fr):Prop:=w.heap[F]? =some (.cells (six f) 34 (0,0))
section
variable {w w':World} {F:Nat} {f:Fr}
theorem Zp.lt (h:Zp w F f):F<w.heap.size:=(Array.getElem?_eq_some_iff.1 h).1
theorem Zp.get (h:Zp w F f):w.cell? ⟨F,0,none⟩=some (.string (B f.id))∧w.cell? ⟨F,1,none⟩=some (.int .u8 f.st.toNat)∧w.cell? ⟨F,2,none⟩=some (.int .u8 f.fm.toNat)∧w.cell? ⟨F,3,none⟩=some (.int .u8 f.grp.toNat)∧w.cell? ⟨F,4,none⟩=some (.string (B f.body))∧w.cell? ⟨F,5,none⟩=some (.int .i64 f.at_):=by
 refine⟨?_,?_,?_,?_,?_,?_⟩<;>(rw [cell_of_row _ F _ _ _ (0,0) h];rfl)
theorem Zp.free (h:Zp w F f)(j:Nat):w.frozen? ⟨F,j,none⟩=false:=frozen_of_row _ F j _ _ h
theorem Zp.below (h:Zp w F f)(hb:Below w.heap.size w w'):Zp w' F f:=(hb.block F (Zp.lt h)).trans h
theorem Zp.but {C:Nat} (h:Zp w F f)(hb:But C w.heap.size w w')(hC:F≠C):Zp w' F f:=(hb.block F (Zp.lt h) hC).trans h
theorem Zp.alloc (h:Zp w F f)(o:Obj):Zp (w.alloc o) F f:=h.below ((Below.refl _ _).alloc (Nat.le_refl _) _)
theorem Zp.setGrp (h:Zp w F f)(g:UInt8)(z:Int)(hz:z=g.toNat):Zp (w.setCell ⟨F,3,none⟩ (.int .u8 z)) F {f with grp:=g}:=by
 subst hz;unfold Zp;rw [heap_setCell_same w F 3 _ _ _ h];rfl
theorem Zp.setBody (h:Zp w F f)(b:List UInt8):Zp (w.setCell ⟨F,4,none⟩ (.string (B b))) F {f with body:=b}:=by
 unfold Zp;rw [heap_setCell_same w F 4 _ _ _ h];rfl
end
theorem Zje (t:List UInt8)(z:Int)(h0:0≤z)(h1:z+t.length≤1000000000)(w:World):
 Calls Tryz.prog 59 #[.string (B t),.int .i64 z] w fun e w'=>∃K,e= .returned (.pointer (some ⟨K,0,none⟩))∧InAt w' K ⟨t,0,z.toNat,0,0⟩∧Below w.heap.size w w'∧w.heap.size≤K∧K<w'.heap.size:=
 (Zjd t z h0 h1 w).mono fun _ _ ⟨a,b,c,d⟩=>⟨_,a,b,c,Nat.le_refl _,by omega⟩
def ZdE (F:Nat)(w:World)(r:Except (Nat×Nat) Fr)(e:Ending)(w':World):Prop:=But F w.heap.size w w'∧match r with
 | .ok f=>e= .returned (.agg #[.int .i64 0,.int .i64 0])∧Zp w' F f
 | .error x=>e= .returned (.agg #[.int .i64 x.1,.int .i64 x.2])∧x.1≠0
def Bx (w:World)(g:Nat)(cs:Array Value)(T:TypeId):Prop:=w.heap[g]? =some (.cells cs T (0,0))
section
variable {w w':World} {g:Nat} {cs:Array Value} {T:TypeId}
theorem Bx.new (w:World)(cs:Array Value)(T:TypeId):Bx (w.alloc (.cells cs T)) w.heap.size cs T:=heap_alloc_new w _
theorem Bx.lt (h:Bx w g cs T):g<w.heap.size:=(Array.getElem?_eq_some_iff.1 h).1
theorem Bx.below (h:Bx w g cs T)(hb:Below w.heap.size w w'):Bx w' g cs T:=(hb.block g (Bx.lt h)).trans h
theorem Bx.but {C:Nat} (h:Bx w g cs T)(hb:But C w.heap.size w w')(hC:g≠C):Bx w' g cs T:=(hb.block g (Bx.lt h) hC).trans h
theorem Bx.alloc (h:Bx w g cs T)(o:Obj):Bx (w.alloc o) g cs T:=h.below ((Below.refl _ _).alloc (Nat.le_refl _) _)
theorem Bx.set {k:Nat} (h:Bx w g cs T)(hk:g≠k)(j:Nat)(v:Value):Bx (w.setCell ⟨k,j,none⟩ v) g cs T:=(ZeI hk v).trans h
theorem Bx.cell (h:Bx w g cs T)(j:Nat):w.cell? ⟨g,j,none⟩=cs[j]?:=cell_of_row _ g j _ _ (0,0) h
theorem Bx.put (h:Bx w g cs T)(j:Nat)(v:Value):Bx (w.setCell ⟨g,j,none⟩ v) g (cs.setIfInBounds j v) T:=heap_setCell_same w g j _ _ v h
theorem Bx.free (h:Bx w g cs T)(j:Nat):w.frozen? ⟨g,j,none⟩=false:=frozen_of_row _ g j _ _ h
theorem Zp.set {k:Nat} {f:Fr} {F:Nat} (h:Zp w F f)(hk:F≠k)(j:Nat)(v:Value):Zp (w.setCell ⟨k,j,none⟩ v) F f:=(ZeI hk v).trans h
end
structure FSt (w0 wx:World)(F R K:Nat)(f:Fr)(s:InS):Prop where
 frame:Zp wx F f
 inn:InAt wx K s
 res:Bx wx R #[.int .i64 0,.int .i64 0] 62
 but:But F w0.heap.size w0 wx
 hF:F<w0.heap.size
 hR:R=w0.heap.size
 hK:R<K
section
variable {w0 w w':World} {F R K:Nat} {f:Fr} {s s':InS}
theorem FSt.below (h:FSt w0 w F R K f s)(hb:Below w.heap.size w w'):FSt w0 w' F R K f s:=
 ⟨h.frame.below hb,h.inn.below hb,h.res.below hb,h.but.trans (.of (hb.mono h.but.size)),h.hF,h.hR,h.hK⟩
theorem FSt.butK (h:FSt w0 w F R K f s)(hi:InAt w' K s')(hb:But K w.heap.size w w'):FSt w0 w' F R K f s':=
 ⟨h.frame.but hb (by have:=h.hF;have:=h.hR;have:=h.hK;omega),hi,h.res.but hb (by have:=h.hK;omega),h.but.trans (.of ((hb.mono h.but.size).below (by have:=h.hR;have:=h.hK;omega))),h.hF,h.hR,h.hK⟩
theorem FSt.alloc (h:FSt w0 w F R K f s)(o:Obj):FSt w0 (w.alloc o) F R K f s:=h.below ((Below.refl _ _).alloc (Nat.le_refl _) _)
theorem FSt.setGrp (h:FSt w0 w F R K f s)(g:UInt8)(z:Int)(hz:z=g.toNat):FSt w0 (w.setCell ⟨F,3,none⟩ (.int .u8 z)) F R K {f with grp:=g} s:=
 ⟨h.frame.setGrp g z hz,h.inn.set (by have:=h.hF;have:=h.hR;have:=h.hK;omega) _ _,h.res.set (by have:=h.hF;have:=h.hR;omega) _ _,h.but.setCell (p:=⟨F,3,none⟩) (.inr rfl) _,h.hF,h.hR,h.hK⟩
theorem FSt.setBody (h:FSt w0 w F R K f s)(b:List UInt8):FSt w0 (w.setCell ⟨F,4,none⟩ (.string (B b))) F R K {f with body:=b} s:=
 ⟨h.frame.setBody b,h.inn.set (by have:=h.hF;have:=h.hR;have:=h.hK;omega) _ _,h.res.set (by have:=h.hF;have:=h.hR;omega) _ _,h.but.setCell (p:=⟨F,4,none⟩) (.inr rfl) _,h.hF,h.hR,h.hK⟩
theorem FSt.cells (h:FSt w0 w F R K f s):(w.cell? ⟨F,0,none⟩=some (.string (B f.id))∧w.cell? ⟨F,1,none⟩=some (.int .u8 f.st.toNat)∧w.cell? ⟨F,2,none⟩=some (.int .u8 f.fm.toNat)∧(∃u,w.cell? ⟨F,3,none⟩=some u)∧w.cell? ⟨F,4,none⟩=some (.string (B f.body)))∧
 w.cell? ⟨R,0,none⟩=some (.int .i64 0)∧w.cell? ⟨R,1,none⟩=some (.int .i64 0)∧(w.frozen? ⟨F,3,none⟩=false∧w.frozen? ⟨F,4,none⟩=false∧w.frozen? ⟨R,0,none⟩=false∧w.frozen? ⟨R,1,none⟩=false)∧F<w.heap.size∧R<w.heap.size:=by
 obtain⟨c0,c1,c2,c3,c4,c5⟩:=h.frame.get;exact⟨⟨c0,c1,c2,⟨_,c3⟩,c4⟩,h.res.cell 0,h.res.cell 1,⟨h.frame.free 3,h.frame.free 4,h.res.free 0,h.res.free 1⟩,h.frame.lt,h.res.lt⟩
end
theorem ZnS (F:Nat)(f:Fr)(v:Int)(data:List UInt8)(z:Int)(w:World)(h:Zp w F f)(hl:ZJ v.toNat f.fm=true):
 Calls Tryz.prog 257 #[.pointer (some ⟨F,0,none⟩),.int .i64 v,.string (B data),.int .i64 z] w (ZdE F w (Zbp v.toNat f data z.toNat)):=by
 have hR:Zbp v.toNat f data z.toNat= .ok {f with body:=data}:=by unfold Zbp;rw [if_pos hl]
 rw [hR];generalize hP:ZdE F w (.ok {f with body:=data})=P at*;have hlk:=fun w=>Zdc (B f.id) f.st f.fm v w;rw [hl] at hlk;have H:=Lib.hid h;obtain⟨c0,c1,c2,c3,c4,c5⟩:=h.get;have f4:=h.free 4;have hlt:=h.lt;clear h hR hl;go_enter Tryz.func257,Tryz.ntmps257
 go_wp2_with (go_at_call 43;refine(hlk _).mono ?_;rintro e w1 ⟨rfl,hb1⟩;have h1:=Lib.hid ((H.out.alloc _).below hb1);have hB1:=Lib.hid (Ze hb1);obtain⟨d0,d1,d2,d3,d4,d5⟩:=h1.out.get;have g4:=h1.out.free 4;have hlt1:=h1.out.lt;have hz1:=Z9 hb1;have hx:=(Bx.new w _ _).below hb1;have x0:=hx.cell 0;have x1:=hx.cell 1;have y0:=hx.free 0;have y1:=hx.free 1;clear hx)
 have hr:=((((Bx.new w _ _).below hb1).set (k:=F) (by omega) 4 (.string (B data))).put 0 (.int .i64 0)).put 1 (.int .i64 0);refine bodyPost_ret (results_cell_row rfl _ _ w.heap.size _ _ _ _ rfl hr Tryz.underlying62 rfl (by kernel_rfl)) rfl ?_;rw [←hP];exact⟨(((But.of hB1.out).setCell (p:=⟨F,4,none⟩) (.inr rfl) _).setCell (p:=⟨w.heap.size,0,none⟩) (.inl (Nat.le_refl _)) _).setCell (p:=⟨w.heap.size,1,none⟩) (.inl (Nat.le_refl _)) _,rfl,((h1.out.setBody data).set (by omega) _ _).set (by omega) _ _⟩
def fpF (v:Nat)(f:Fr)(data:List UInt8)(k:Nat):Nat×InS:=if Z7 v f.fm then(⟨data,0,k,0,0⟩:InS).big 1 else(f.grp.toNat,⟨data,0,k,0,0⟩)
def fqF (v:Nat)(f:Fr)(data:List UInt8)(k:Nat):Nat×InS:=if Zap v f.fm then(fpF v f data k).2.safe else(0,(fpF v f data k).2)
def fdF (v:Nat)(f:Fr)(data:List UInt8)(k:Nat):List UInt8:=if ZaG v f.fm then ZV false (fqF v f data k).2.rest.1 else(fqF v f data k).2.rest.1
theorem ZqG (v:Nat)(f:Fr)(data:List UInt8)(k:Nat)(hl:ZJ v f.fm=false):
 Zbp v f data k=if(fqF v f data k).2.e≠0 then .error ((fqF v f data k).2.e,(fqF v f data k).2.a) else
  if Zap v f.fm=true∧(fqF v f data k).1≠(fdF v f data k).length then .error (1,(fpF v f data k).2.at_) else .ok {f with grp:=UInt8.ofNat (fpF v f data k).1,body:=fdF v f data k}:=by
 unfold Zbp;rw [if_neg (by rw [hl];decide)];rfl
theorem fpF_lt (v:Nat)(f:Fr)(data:List UInt8)(k:Nat):(fpF v f data k).1<256:=by
 unfold fpF;split
 · have:=Zcs (⟨data,0,k,0,0⟩:InS) 1 (by omega);simpa using this
 · exact f.grp.toNat_lt
theorem fqF_lt (v:Nat)(f:Fr)(data:List UInt8)(k:Nat):(fqF v f data k).1<268435456:=by
 unfold fqF;split
 · exact ZgC _
 · simp
theorem Zh8 (N:Nat)(h:N<256):(N:Int)=(UInt8.ofNat N).toNat:=by rw [UInt8.toNat_ofNat'];omega
theorem Zip (s:InS)(h:s.t.length≤1000000000):s.rest.1.length≤1000000000:=by
 have h1:=Zd4 s s.left;have:s.left≤s.t.length:=by unfold InS.left;split<;>omega
 unfold InS.rest;omega
theorem Zf1:∀(f:Bool) (l:List UInt8),(ZV f l).length≤l.length
 |_,[]=>Nat.le_refl _
 |f,x::r=>by
  unfold ZV;split
  · have:=Zf1 false r;simp only [List.length_cons];omega
  · have:=Zf1 (x==255) r;simp only [List.length_cons];omega
theorem ZnT (F:Nat)(f:Fr)(v:Int)(data:List UInt8)(z:Int)(hz0:0≤z)(hz1:z+data.length≤1000000000)(w:World)(h:Zp w F f)(hl:ZJ v.toNat f.fm=false):
 Calls Tryz.prog 257 #[.pointer (some ⟨F,0,none⟩),.int .i64 v,.string (B data),.int .i64 z] w (ZdE F w (Zbp v.toNat f data z.toNat)):=by
 have hR:=ZqG v.toNat f data z.toNat hl;have hpl:=fpF_lt v.toNat f data z.toNat;have hql:=fqF_lt v.toNat f data z.toNat;generalize hP:ZdE F w (Zbp v.toNat f data z.toNat)=P at*;have hlk:=fun w=>Zdc (B f.id) f.st f.fm v w;rw [hl] at hlk;have hgr:=fun w=>ZfL (B f.id) f.st f.fm v w;have hms:=fun w=>Zg1 (B f.id) f.st f.fm v w;have hsp:=fun w=>ZgX (B f.id) f.st f.fm v w;have hin:=fun w=>Zje data z hz0 hz1 w;have H:=Lib.hid h;have HR:=Lib.hid hR;obtain⟨c0,c1,c2,c3,c4,c5⟩:=h.get;have hlt:=h.lt;have Hpd:Hid (fpF v.toNat f data z.toNat=if Z7 v.toNat f.fm then(⟨data,0,z.toNat,0,0⟩:InS).big 1 else(f.grp.toNat,⟨data,0,z.toNat,0,0⟩)):=Lib.hid rfl;have Hqd:Hid (fqF v.toNat f data z.toNat=if Zap v.toNat f.fm then(fpF v.toNat f data z.toNat).2.safe else(0,(fpF v.toNat f data z.toNat).2)):=Lib.hid rfl;have Hdd:Hid (fdF v.toNat f data z.toNat=if ZaG v.toNat f.fm then ZV false (fqF v.toNat f data z.toNat).2.rest.1 else(fqF v.toNat f data z.toNat).2.rest.1):=Lib.hid rfl;clear h hR hl;generalize fpF v.toNat f data z.toNat=p at*;generalize fqF v.toNat f data z.toNat=q at*;generalize fdF v.toNat f data z.toNat=d at*;generalize hgG:Z7 v.toNat f.fm=G at*;generalize hmM:Zap v.toNat f.fm=M at*;generalize hsS:ZaG v.toNat f.fm=S at*;clear hgG hmM hsS;go_enter Tryz.func257,Tryz.ntmps257
 go_upto_if 32 with(first
  |(go_at_call 43;refine(hlk _).mono ?_;rintro e w1 ⟨rfl,hb1⟩;have h1:=Lib.hid ((H.out.alloc _).below hb1);have hB1:=Lib.hid (Ze hb1);have hz1:=Z9 hb1;have hx:=Lib.hid ((Bx.new w _ _).below hb1);clear hb1)
  |(go_at_call 59;refine(hin _).mono ?_;rintro e w2 ⟨K,rfl,hI,hb2,hK1,hK2⟩;have ST:Hid (FSt w w2 F w.heap.size K f ⟨data,0,z.toNat,0,0⟩):=Lib.hid ⟨h1.out.below hb2,hI,hx.out.below hb2,(But.of hB1.out).trans (.of (hb2.mono hB1.out.size)),hlt,rfl,by omega⟩;clear hI hb2;obtain⟨⟨d0,d1,d2,⟨u3,d3⟩,d4⟩,r0,r1,⟨f3,f4,fr0,fr1⟩,l1,l2⟩:=ST.out.cells)
  |(go_at_call 224;refine(hgr _).mono ?_;rintro e w3 ⟨rfl,hb3⟩;have ST2:=Lib.hid (ST.out.below hb3);clear hb3 d0 d1 d2 d3 d4 r0 r1 f3 f4 fr0 fr1))
 have hks:p.1=p.1:=rfl;clear hks;obtain⟨⟨e0,e1,e2,⟨v3,e3⟩,e4⟩,r0,r1,⟨f3,f4,fr0,fr1⟩,l3,l4⟩:=ST2.out.cells;go_cut [] (fun wx=>FSt w wx F w.heap.size K {f with grp:=UInt8.ofNat p.1} p.2)
 case first=>
  have hbg:=fun w h=>ZcN K ⟨data,0,z.toNat,0,0⟩ 1 (by omega) w h;unfold Zf at hbg;cases G with
  |true=>
   have hp:=Hpd.out;rw [if_pos rfl] at hp;rw [←hp] at hbg;clear hp;go_wp2_with (go_at_call 56;refine(hbg _ ST2.out.inn).mono ?_;rintro e w4 ⟨rfl,h4,hb4⟩;have ST3:=Lib.hid (ST2.out.butK h4 hb4);clear h4 hb4 e0 e1 e2 e3 e4 r0 r1 f3 f4 fr0 fr1;obtain⟨⟨d0,d1,d2,⟨u3,d3⟩,d4⟩,r0,r1,⟨f3,f4,fr0,fr1⟩,m1,m2⟩:=ST3.out.cells)
   go_meet
   exact ST3.out.setGrp _ _ (Zh8 _ hpl)
  |false=>
   have hp:=Hpd.out;rw [if_neg (by decide)] at hp;have he:({f with grp:=UInt8.ofNat p.1}:Fr)=f:=by rw [hp];simp
   have he2:p.2=⟨data,0,z.toNat,0,0⟩:=by rw [hp]
   have He:=Lib.hid he;have He2:=Lib.hid he2;clear hp he he2;go_wp2_with fail
   go_meet
   rw [He.out,He2.out];exact ST2.out
 case rest=>
  have ST3:=Lib.hid hcut;clear hcut e0 e1 e2 e3 e4 r0 r1 f3 f4 fr0 fr1 c0 c1 c2 c3 c4 c5;have hat:=fun w h=>Zb0 K p.2 w h;obtain⟨⟨e0,e1,e2,⟨v4,e3⟩,e4⟩,r0,r1,⟨f3,f4,fr0,fr1⟩,l5,l6⟩:=ST3.out.cells;simp only at e0 e1 e2 e4
  go_upto_if 46 with(first
   |(go_at_call 55;refine(hat _ ST3.out.inn).mono ?_;rintro e w5 ⟨rfl,rfl⟩)
   |(go_at_call 227;refine(hms _).mono ?_;rintro e w6 ⟨rfl,hb6⟩;have ST4:=Lib.hid (ST3.out.below hb6);clear hb6 e0 e1 e2 e3 e4 r0 r1 f3 f4 fr0 fr1))
  obtain⟨⟨e0,e1,e2,⟨v4,e3⟩,e4⟩,r0,r1,⟨f3,f4,fr0,fr1⟩,l7,l8⟩:=ST4.out.cells;simp only at e0 e1 e2 e4;go_cut [11] (fun s11 wx=>s11= .int .i64 q.1∧FSt w wx F w.heap.size K {f with grp:=UInt8.ofNat p.1} q.2)
  case first=>
   have hsf:=fun w h=>ZfP K p.2 w h;unfold Zf at hsf;cases M with
   |true=>
    have hq:=Hqd.out;rw [if_pos rfl] at hq;rw [←hq] at hsf;clear hq;go_wp2_with (go_at_call 100;refine(hsf _ ST4.out.inn).mono ?_;rintro e w7 ⟨rfl,h7,hb7⟩;have ST5:=Lib.hid (ST4.out.butK h7 hb7);clear h7 hb7)
    go_meet
    exact⟨rfl,ST5.out⟩
   |false=>
    have hq:=Hqd.out;rw [if_neg (by decide)] at hq;have Hq:=Lib.hid hq;clear hq;go_wp2_with fail
    go_meet
    rw [Hq.out];exact⟨rfl,ST4.out⟩
  case rest=>
   obtain⟨rfl,hcut⟩:=hcut;have ST5:=Lib.hid hcut;clear hcut e0 e1 e2 e3 e4 r0 r1 f3 f4 fr0 fr1;obtain⟨⟨e0,e1,e2,⟨v5,e3⟩,e4⟩,r0,r1,⟨f3,f4,fr0,fr1⟩,l9,l10⟩:=ST5.out.cells;simp only at e0 e1 e2 e4;have hfl:=fun w h=>Zcp K q.2 w h;by_cases hE:q.2.e=0
   · have hRR:=HR.out;rw [if_neg (by simpa using hE)] at hRR;have HRR:=Lib.hid hRR;have hbd:=fun w=>ZT (q.2.e:Int) q.2.a (by omega) w;have hrs:=fun w h=>Zec K q.2 w h;unfold Zf at hrs;have hrl:=Zip q.2 ST5.out.inn.len;have HE:=Lib.hid hE;clear hRR hE
     go_upto_if 64 with(first
      |(go_at_call 53;refine(hfl _ ST5.out.inn).mono ?_;rintro e w8 ⟨rfl,hb8⟩;have ST6:=Lib.hid (ST5.out.below hb8);clear hb8 e0 e1 e2 e3 e4 r0 r1 f3 f4 fr0 fr1;obtain⟨⟨e0,e1,e2,⟨v5,e3⟩,e4⟩,r0,r1,⟨f3,f4,fr0,fr1⟩,l11,l12⟩:=ST6.out.cells)
      |(go_at_call 7;refine(hbd _).mono ?_;rintro e w9 ⟨rfl,hb9⟩;have ST7:=Lib.hid ((ST6.out.alloc _).below hb9);clear hb9 e0 e1 e2 e3 e4 r0 r1 f3 f4 fr0 fr1;obtain⟨⟨e0,e1,e2,⟨v5,e3⟩,e4⟩,r0,r1,⟨f3,f4,fr0,fr1⟩,l13,l14⟩:=ST7.out.cells)
      |(go_at_call 60;refine(hrs _ ST7.out.inn).mono ?_;rintro e w10 ⟨rfl,h10,hb10⟩;have ST8:=Lib.hid (ST7.out.butK h10 hb10);clear h10 hb10 e0 e1 e2 e3 e4 r0 r1 f3 f4 fr0 fr1;obtain⟨⟨e0,e1,e2,⟨v5,e3⟩,e4⟩,r0,r1,⟨f3,f4,fr0,fr1⟩,l15,l16⟩:=ST8.out.cells)
      |(go_at_call 228;refine(hsp _).mono ?_;rintro e w11 ⟨rfl,hb11⟩;have ST9:=Lib.hid ((ST8.out.setBody q.2.rest.1).below hb11);clear hb11 e0 e1 e2 e3 e4 r0 r1 f3 f4 fr0 fr1))
     obtain⟨⟨e0,e1,e2,⟨v5,e3⟩,e4⟩,r0,r1,⟨f3,f4,fr0,fr1⟩,l17,l18⟩:=ST9.out.cells;simp only at e0 e1 e2 e4;go_cut [] (fun wx=>FSt w wx F w.heap.size K {f with grp:=UInt8.ofNat p.1,body:=d} q.2.rest.2)
     case first=>
      have hdr:=fun w=>Zi3 q.2.rest.1 hrl w;cases S with
      |true=>
       have hd:=Hdd.out;rw [if_pos rfl] at hd;rw [←hd] at hdr;clear hd;go_wp2_with (go_at_call 102;refine(hdr _).mono ?_;rintro e w12 ⟨rfl,hb12⟩;have STa:=Lib.hid (ST9.out.below hb12);clear hb12 e0 e1 e2 e3 e4 r0 r1 f3 f4 fr0 fr1;obtain⟨⟨e0,e1,e2,⟨v5,e3⟩,e4⟩,r0,r1,⟨f3,f4,fr0,fr1⟩,l19,l20⟩:=STa.out.cells)
       go_meet
       exact STa.out.setBody d
      |false=>
       have hd:=Hdd.out;rw [if_neg (by decide)] at hd;have Hd:=Lib.hid hd;clear hd;go_wp2_with fail
       go_meet
       rw [Hd.out];exact ST9.out
     case rest=>
      have STb:=Lib.hid hcut;clear hcut e0 e1 e2 e3 e4 r0 r1 f3 f4 fr0 fr1;obtain⟨⟨e0,e1,e2,⟨v5,e3⟩,e4⟩,r0,r1,⟨f3,f4,fr0,fr1⟩,l21,l22⟩:=STb.out.cells;simp only at e0 e1 e2 e4;have hdl:d.length≤1000000000:=by
       have hd:=Hdd.out;rw [hd];split
       · have:=Zf1 false q.2.rest.1;omega
       · exact hrl
      have hsz:=Zl d;cases M with
      |false=>
       have hRR:=HRR.out;rw [if_neg (by simp)] at hRR;have HRR2:=Lib.hid hRR;clear hRR;go_wp2_with (go_at_call 227;refine(hms _).mono ?_;rintro e w13 ⟨rfl,hb13⟩;have STc:=Lib.hid (STb.out.below hb13);clear hb13 e0 e1 e2 e3 e4 r0 r1 f3 f4 fr0 fr1;obtain⟨⟨e0,e1,e2,⟨v5,e3⟩,e4⟩,r0,r1,⟨f3,f4,fr0,fr1⟩,l23,l24⟩:=STc.out.cells)
       have hr:=(STc.out.res.put 0 (.int .i64 0)).put 1 (.int .i64 0);refine bodyPost_ret (results_cell_row rfl _ _ w.heap.size _ _ _ _ rfl hr Tryz.underlying62 rfl (by kernel_rfl)) rfl ?_;rw [←hP,HRR2.out];exact⟨(STc.out.but.setCell (p:=⟨w.heap.size,0,none⟩) (.inl (Nat.le_refl _)) _).setCell (p:=⟨w.heap.size,1,none⟩) (.inl (Nat.le_refl _)) _,rfl,(STc.out.frame.set (by omega) _ _).set (by omega) _ _⟩
      |true=>
       by_cases hne:q.1=d.length
       · have hq1:((q.1:Int) !=(d.length:Int))=false:=by rw [hne];simp
         have hRR:=HRR.out;rw [if_neg (by simp [hne])] at hRR;have HRR2:=Lib.hid hRR;clear hRR hne;go_wp2_with (go_at_call 227;refine(hms _).mono ?_;rintro e w13 ⟨rfl,hb13⟩;have STc:=Lib.hid (STb.out.below hb13);clear hb13 e0 e1 e2 e3 e4 r0 r1 f3 f4 fr0 fr1;obtain⟨⟨e0,e1,e2,⟨v5,e3⟩,e4⟩,r0,r1,⟨f3,f4,fr0,fr1⟩,l23,l24⟩:=STc.out.cells)
         have hr:=(STc.out.res.put 0 (.int .i64 0)).put 1 (.int .i64 0);refine bodyPost_ret (results_cell_row rfl _ _ w.heap.size _ _ _ _ rfl hr Tryz.underlying62 rfl (by kernel_rfl)) rfl ?_;rw [←hP,HRR2.out];exact⟨(STc.out.but.setCell (p:=⟨w.heap.size,0,none⟩) (.inl (Nat.le_refl _)) _).setCell (p:=⟨w.heap.size,1,none⟩) (.inl (Nat.le_refl _)) _,rfl,(STc.out.frame.set (by omega) _ _).set (by omega) _ _⟩
       · have hq1:((q.1:Int) !=(d.length:Int))=true:=by rw [bne_iff_ne];omega
         have hRR:=HRR.out;rw [if_pos (by simp [hne])] at hRR;have HRR2:=Lib.hid hRR;clear hRR hne;go_wp2_with (go_at_call 227;refine(hms _).mono ?_;rintro e w13 ⟨rfl,hb13⟩;have STc:=Lib.hid (STb.out.below hb13);clear hb13 e0 e1 e2 e3 e4 r0 r1 f3 f4 fr0 fr1;obtain⟨⟨e0,e1,e2,⟨v5,e3⟩,e4⟩,r0,r1,⟨f3,f4,fr0,fr1⟩,l23,l24⟩:=STc.out.cells)
         have hr:=(STc.out.res.put 0 (.int .i64 1)).put 1 (.int .i64 p.2.at_);refine bodyPost_ret (results_cell_row rfl _ _ w.heap.size _ _ _ _ rfl hr Tryz.underlying62 rfl (by kernel_rfl)) rfl ?_;rw [←hP,HRR2.out];exact⟨(STc.out.but.setCell (p:=⟨w.heap.size,0,none⟩) (.inl (Nat.le_refl _)) _).setCell (p:=⟨w.heap.size,1,none⟩) (.inl (Nat.le_refl _)) _,rfl,Nat.one_ne_zero⟩
   · have hRR:=HR.out;rw [if_pos hE] at hRR;have HRR:=Lib.hid hRR;have hbd:=fun w=>Zaq (q.2.e:Int) q.2.a (by omega) w;have HE:=Lib.hid hE;clear hRR hE;go_wp2_with (first
      |(go_at_call 53;refine(hfl _ ST5.out.inn).mono ?_;rintro e w8 ⟨rfl,hb8⟩;have ST6:=Lib.hid (ST5.out.below hb8);clear hb8 e0 e1 e2 e3 e4 r0 r1 f3 f4 fr0 fr1;obtain⟨⟨e0,e1,e2,⟨v5,e3⟩,e4⟩,r0,r1,⟨f3,f4,fr0,fr1⟩,l11,l12⟩:=ST6.out.cells)
      |(go_at_call 7;refine(hbd _).mono ?_;rintro e w9 ⟨rfl,hb9⟩;have BX:=Lib.hid ((Bx.new w8 _ _).below hb9);have ST7:=Lib.hid ((ST6.out.alloc _).below hb9);clear hb9 e0 e1 e2 e3 e4 r0 r1 f3 f4 fr0 fr1;obtain⟨⟨e0,e1,e2,⟨v5,e3⟩,e4⟩,r0,r1,⟨f3,f4,fr0,fr1⟩,l13,l14⟩:=ST7.out.cells;have x0:=BX.out.cell 0;have x1:=BX.out.cell 1))
     have hr:=(ST7.out.res.put 0 (.int .i64 q.2.e)).put 1 (.int .i64 q.2.a);refine bodyPost_ret (results_cell_row rfl _ _ w.heap.size _ _ _ _ rfl hr Tryz.underlying62 rfl (by kernel_rfl)) rfl ?_;rw [←hP,HRR.out];exact⟨(ST7.out.but.setCell (p:=⟨w.heap.size,0,none⟩) (.inl (Nat.le_refl _)) _).setCell (p:=⟨w.heap.size,1,none⟩) (.inl (Nat.le_refl _)) _,rfl,HE.out⟩
end Go.Proofs.YtecandjkbbpooaaGreatDoor
