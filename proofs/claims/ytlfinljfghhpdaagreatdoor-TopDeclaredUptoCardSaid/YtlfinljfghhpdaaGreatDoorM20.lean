/- Lemmas for a statement on the tops; conditions: as each says. -/
import Derived.Test.YtlfinljfghhpdaaGreatDoorM5
import Derived.Test.YtlfinljfghhpdaaGreatDoorM19
set_option linter.unusedVariables false
set_option linter.unusedSimpArgs false
set_option maxRecDepth 100000
set_option maxHeartbeats 4000000
namespace Go.Proofs.YtlfinljfghhpdaaGreatDoor
open Go Go.RowKit
theorem ZhD {x:Int} (h0:0≤x)(h1:x≤65535):bits .and .i64 x 31=x % 32:=
 bits_mask .i64 63 (by decide) (fun n h0 h1=>by simp [IntKind.wrap,IntKind.bits,IntKind.signed];omega) 5 (by decide) x h0 (by omega)
theorem Zor (a b:UInt8)(w:World):
 Calls Tryz.prog 306 #[.int .u8 a.toNat,.int .u8 b.toNat] w fun e w'=>e= .returned (.tuple #[.int .i32 (ZZ ((a.toNat*256+b.toNat:Nat):Int)),.bool (decide (ZZ ((a.toNat*256+b.toNat:Nat):Int)≠0))])∧Below w.heap.size w w':=by
 have ha:=a.toNat_lt;have hb:=b.toNat_lt;generalize a.toNat=x at*;generalize b.toNat=y at*;have hor:bits .or .i64 ((x:Int)*256) y=((x*256+y:Nat):Int):=by
  rw [ZhE (by omega) (by omega) (by omega) (by omega)];omega
 have hN:0≤((x*256+y:Nat):Int)∧((x*256+y:Nat):Int)≤65535:=by omega
 generalize ((x*256+y:Nat):Int)=N at*;obtain⟨N0,N1⟩:=hN;have h1:bits .and .i64 (N / 1024) 31=N / 1024 % 32:=ZhD (by omega) (by omega);have h2:bits .and .i64 (N / 32) 31=N / 32 % 32:=ZhD (by omega) (by omega);have h3:bits .and .i64 N 31=N % 32:=ZhD (by omega) (by omega);have r1:0≤N / 1024 % 32∧N / 1024 % 32≤1000:=by omega
 have r2:0≤N / 32 % 32∧N / 32 % 32≤1000:=by omega
 have r3:0≤N % 32∧N % 32≤1000:=by omega
 have ci:=fun w=>Zop _ r1 w;have cm:=fun w=>Zoq _ r2 w;have cf:=fun w=>Zoo _ r3 w;have bi:=Zlm (N / 1024 % 32);have bm:=ZhT (N / 32 % 32);have bf:=Zhm (N % 32);have hJ:ZZ N=if N<32768∨Zas (N / 1024 % 32)= -2∨Zat (N / 32 % 32)= -2∨Zac (N % 32)= -2 then 0 else Zaw (Zas (N / 1024 % 32)) (Zat (N / 32 % 32)) (Zac (N % 32)):=rfl
 have hx:(x:Int)≤255:=by omega
 have hy:(y:Int)≤255:=by omega
 clear r1 r2 r3 ha hb;generalize N / 1024 % 32=c1 at*;generalize N / 32 % 32=c2 at*;generalize N % 32=c3 at*;generalize Zas c1=i at*;generalize Zat c2=m at*;generalize Zac c3=f at*;generalize ZZ N=J at*;by_cases hA:N<32768
 · have E:J=0:=by rw [hJ,if_pos (.inl hA)]
   subst E;have e0:(N / 32768==0)=true:=by simp;omega
   clear hJ;go_enter Tryz.func306,Tryz.ntmps306
   go_wp2_with (first|(go_at_call 348;refine(ci _).mono ?_;rintro e w' ⟨rfl,rfl⟩)|(go_at_call 349;refine(cm _).mono ?_;rintro e w' ⟨rfl,rfl⟩)|(go_at_call 350;refine(cf _).mono ?_;rintro e w' ⟨rfl,rfl⟩))
   go_ret2
   exact⟨rfl,Below.refl _ _⟩
 have eN:(N / 32768==0)=false:=by rw [beq_eq_false_iff_ne];omega
 by_cases hB:i= -2
 · have E:J=0:=by rw [hJ,if_pos (.inr (.inl hB))]
   subst E hB;clear hJ;rw [ZiO,Zhq] at ci;go_enter Tryz.func306,Tryz.ntmps306
   go_wp2_with (first|(go_at_call 348;refine(ci _).mono ?_;rintro e w' ⟨rfl,rfl⟩)|(go_at_call 349;refine(cm _).mono ?_;rintro e w' ⟨rfl,rfl⟩)|(go_at_call 350;refine(cf _).mono ?_;rintro e w' ⟨rfl,rfl⟩))
   go_ret2
   exact⟨rfl,Below.refl _ _⟩
 rw [ZiP hB,Zhr hB] at ci;by_cases hC:m= -2
 · have E:J=0:=by rw [hJ,if_pos (.inr (.inr (.inl hC)))]
   subst E hC;clear hJ;rw [ZiO,Zhq] at cm;go_enter Tryz.func306,Tryz.ntmps306
   go_wp2_with (first|(go_at_call 348;refine(ci _).mono ?_;rintro e w' ⟨rfl,rfl⟩)|(go_at_call 349;refine(cm _).mono ?_;rintro e w' ⟨rfl,rfl⟩)|(go_at_call 350;refine(cf _).mono ?_;rintro e w' ⟨rfl,rfl⟩))
   go_ret2
   exact⟨rfl,Below.refl _ _⟩
 rw [ZiP hC,Zhr hC] at cm;by_cases hD:f= -2
 · have E:J=0:=by rw [hJ,if_pos (.inr (.inr (.inr hD)))]
   subst E hD;clear hJ;rw [ZiO,Zhq] at cf;go_enter Tryz.func306,Tryz.ntmps306
   go_wp2_with (first|(go_at_call 348;refine(ci _).mono ?_;rintro e w' ⟨rfl,rfl⟩)|(go_at_call 349;refine(cm _).mono ?_;rintro e w' ⟨rfl,rfl⟩)|(go_at_call 350;refine(cf _).mono ?_;rintro e w' ⟨rfl,rfl⟩))
   go_ret2
   exact⟨rfl,Below.refl _ _⟩
 rw [ZiP hD,Zhr hD] at cf;have f0:0≤f∧f≤27:=by omega
 have hJ2:J=Zaw i m f:=by rw [hJ,if_neg (by omega)]
 clear hJ bf;unfold Zaw at hJ2;by_cases hi:i= -1
 · subst hi;by_cases hm:m= -1
   · subst hm;by_cases hf:f=0
     · subst hf;have E:J=0:=by rw [hJ2];rfl
       subst E;clear hJ2;have e1:decide ((-1:Int)= -1)=true:=rfl;go_enter Tryz.func306,Tryz.ntmps306
       go_wp2_with (first|(go_at_call 348;refine(ci _).mono ?_;rintro e w' ⟨rfl,rfl⟩)|(go_at_call 349;refine(cm _).mono ?_;rintro e w' ⟨rfl,rfl⟩)|(go_at_call 350;refine(cf _).mono ?_;rintro e w' ⟨rfl,rfl⟩))
       go_ret2
       exact⟨rfl,Below.refl _ _⟩
     · have E:J=Zab (97+f.toNat):=by rw [hJ2,if_neg (by omega),if_neg (by omega),if_neg (by omega),if_pos ⟨rfl,rfl,hf⟩]
       have ef:(f==0)=false:=by simpa using hf
       have ef2:(f !=0)=true:=by simpa using hf
       obtain⟨k,rfl⟩:∃k:Nat,f=k:=⟨f.toNat,by omega⟩
       have hk:((97+k:Nat):Int)=97+(k:Int):=by omega
       have hco:=fun w=>Zjp (97+k) (by omega) w;rw [Int.toNat_natCast] at E;rw [←E,hk] at hco;clear hJ2 E hk;have f1:=f0.2;clear f0;go_enter Tryz.func306,Tryz.ntmps306
       go_wp2_with (first|(go_at_call 348;refine(ci _).mono ?_;rintro e w' ⟨rfl,rfl⟩)|(go_at_call 349;refine(cm _).mono ?_;rintro e w' ⟨rfl,rfl⟩)|(go_at_call 350;refine(cf _).mono ?_;rintro e w' ⟨rfl,rfl⟩)|(go_at_call 352;refine(hco _).mono ?_;rintro e w1 ⟨rfl,hb1⟩))
       go_ret2
       exact⟨ZdD rfl (by simp),hb1⟩
   · have m0:0≤m:=by omega
     have m1:=bm.2;have em:(m== -1)=false:=by simpa using hm
     have em2:(m != -1)=true:=by simpa using hm
     by_cases hf:f=0
     · subst hf;have E:J=12623+m:=by rw [hJ2,if_neg (by omega),if_pos ⟨rfl,hm,rfl⟩]
       have E0:decide (J≠0)=true:=by simp;omega
       rw [E0];subst E;clear hJ2 bm f0 hm E0;have e1:decide ((-1:Int)= -1)=true:=rfl;go_enter Tryz.func306,Tryz.ntmps306
       go_wp2_with (first|(go_at_call 348;refine(ci _).mono ?_;rintro e w' ⟨rfl,rfl⟩)|(go_at_call 349;refine(cm _).mono ?_;rintro e w' ⟨rfl,rfl⟩)|(go_at_call 350;refine(cf _).mono ?_;rintro e w' ⟨rfl,rfl⟩))
       go_ret2
       exact⟨rfl,Below.refl _ _⟩
     · have E:J=0:=by rw [hJ2,if_neg (by omega),if_neg (by omega),if_neg (by omega),if_neg (by omega)]
       subst E;have ef:(f==0)=false:=by simpa using hf
       have ef2:(f !=0)=true:=by simpa using hf
       clear hJ2 bm f0 hm;have e1:decide ((-1:Int)= -1)=true:=rfl;go_enter Tryz.func306,Tryz.ntmps306
       go_wp2_with (first|(go_at_call 348;refine(ci _).mono ?_;rintro e w' ⟨rfl,rfl⟩)|(go_at_call 349;refine(cm _).mono ?_;rintro e w' ⟨rfl,rfl⟩)|(go_at_call 350;refine(cf _).mono ?_;rintro e w' ⟨rfl,rfl⟩))
       go_ret2
       exact⟨rfl,Below.refl _ _⟩
 · have i0:0≤i:=by omega
   have i1:=bi.2;have ei:(i== -1)=false:=by simpa using hi
   have ei2:(i != -1)=true:=by simpa using hi
   by_cases hm:m= -1
   · subst hm;by_cases hf:f=0
     · subst hf;have E:J=Zab (65+i.toNat):=by rw [hJ2,if_neg (by omega),if_neg (by omega),if_pos ⟨hi,rfl,rfl⟩]
       obtain⟨k,rfl⟩:∃k:Nat,i=k:=⟨i.toNat,by omega⟩
       have hk:((65+k:Nat):Int)=65+(k:Int):=by omega
       have hco:=fun w=>Zjp (65+k) (by omega) w;rw [Int.toNat_natCast] at E;rw [←E,hk] at hco;clear hJ2 E hk hi bi;clear f0;go_enter Tryz.func306,Tryz.ntmps306
       go_wp2_with (first|(go_at_call 348;refine(ci _).mono ?_;rintro e w' ⟨rfl,rfl⟩)|(go_at_call 349;refine(cm _).mono ?_;rintro e w' ⟨rfl,rfl⟩)|(go_at_call 350;refine(cf _).mono ?_;rintro e w' ⟨rfl,rfl⟩)|(go_at_call 352;refine(hco _).mono ?_;rintro e w1 ⟨rfl,hb1⟩))
       go_ret2
       exact⟨ZdD rfl (by simp),hb1⟩
     · have E:J=0:=by rw [hJ2,if_neg (by omega),if_neg (by omega),if_neg (by omega),if_neg (by omega)]
       subst E;have ef:(f==0)=false:=by simpa using hf
       have ef2:(f !=0)=true:=by simpa using hf
       clear hJ2 bi f0 hi;have e1:decide ((-1:Int)= -1)=true:=rfl;go_enter Tryz.func306,Tryz.ntmps306
       go_wp2_with (first|(go_at_call 348;refine(ci _).mono ?_;rintro e w' ⟨rfl,rfl⟩)|(go_at_call 349;refine(cm _).mono ?_;rintro e w' ⟨rfl,rfl⟩)|(go_at_call 350;refine(cf _).mono ?_;rintro e w' ⟨rfl,rfl⟩))
       go_ret2
       exact⟨rfl,Below.refl _ _⟩
   · have E:J=Zec i m f:=by rw [hJ2,if_pos ⟨hi,hm⟩]
     have m0:0≤m:=by omega
     have m1:=bm.2;have em:(m== -1)=false:=by simpa using hm
     have em2:(m != -1)=true:=by simpa using hm
     have hsy:=fun w=>Zos i m f (by omega) (by omega) f0 w;have E0:decide (J≠0)=true:=by rw [E];unfold Zec;simp;omega
     rw [E0];rw [←E] at hsy;clear hJ2 E bi bm f0 hm hi E0;have e1:decide ((-1:Int)= -1)=true:=rfl;go_enter Tryz.func306,Tryz.ntmps306
     go_wp2_with (first|(go_at_call 348;refine(ci _).mono ?_;rintro e w' ⟨rfl,rfl⟩)|(go_at_call 349;refine(cm _).mono ?_;rintro e w' ⟨rfl,rfl⟩)|(go_at_call 350;refine(cf _).mono ?_;rintro e w' ⟨rfl,rfl⟩)|(go_at_call 351;refine(hsy _).mono ?_;rintro e w1 ⟨rfl,rfl⟩))
     go_ret2
     exact⟨rfl,Below.refl _ _⟩
theorem Zlj {x y:Int} (hy₀:0≤y)(hy:y<256)(hx₀:0≤x)(hx:x<8388608):bits .or .i32 (x*256) y=x*256+y:=
 bits_join .i32 31 (by decide) (fun n h0 h1=>by simp [IntKind.wrap,IntKind.bits,IntKind.signed];omega) 8 (x*256) y (by omega) (by omega) (by omega) hy₀ hy (by omega)
theorem ZjU (s:ByteArray)(i:Nat)(hi:i+1<s.size)(hs:s.size≤140737488355328)(big:Bool)(w:World):
 Calls Tryz.prog 282 #[.string s,.int .i64 i,.bool big] w fun e w'=>e= .returned (.int .i32 (Zm big s[i] s[i+1]))∧Below w.heap.size w w':=by
 have h0:=(s[i]).toNat_lt;have h1:=(s[i+1]).toNat_lt;have hi0:i<s.size:=by omega
 have hA:0≤(i:Int)+1∧(i:Int)+1<(s.size:Int):=by omega
 have hA1:0≤(i:Int)+1:=by omega
 have hA2:(i:Int)+1<(s.size:Int):=by omega
 have hA3:((i:Int)+1).toNat=i+1:=by omega
 go_enter Tryz.func282,Tryz.ntmps282
 cases big
 · go_wp2_with fail
   go_region
   go_wp2_with fail
   go_ret
   exact⟨Za4 (by rw [Zlj (by omega) (by omega) (by omega) (by omega)];simp [Zm]),(Below.refl _ _).drew⟩
 · go_wp2_with fail
   go_region
   go_wp2_with fail
   go_ret
   exact⟨Za4 (by rw [Zlj (by omega) (by omega) (by omega) (by omega)];simp [Zm]),(Below.refl _ _).drew⟩
theorem Zkx (s:ByteArray)(i:Nat)(hi:i+1<s.size):s.data.toList.drop i=s[i]::s[i+1]::s.data.toList.drop (i+2):=by
 have h0:i<s.data.toList.length:=by simpa using (by omega:i<s.size)
 have h1:i+1<s.data.toList.length:=by simpa using hi
 rw [List.drop_eq_getElem_cons h0,List.drop_eq_getElem_cons h1];rfl
theorem Zna (s:ByteArray)(i:Nat):(s.data.toList.drop i).length=s.size - i:=by simp
theorem ZuW {big:Bool} {a b:UInt8} {r:List UInt8} (h:Zm big a b<55296∨57344≤Zm big a b):Zp big (a::b::r)=(Zm big a b,2):=by
 simp only [Zp,if_pos h]
theorem ZuX {big:Bool} {a b:UInt8} {r:List UInt8} (h:¬(Zm big a b<55296∨57344≤Zm big a b))(h2:56320≤Zm big a b):Zp big (a::b::r)=(0,0):=by
 simp only [Zp,if_neg h,if_pos h2]
theorem Zu0 {big:Bool} {a b:UInt8} {r:List UInt8} (h:¬(Zm big a b<55296∨57344≤Zm big a b))(h2:¬56320≤Zm big a b)(hr:r.length<2):Zp big (a::b::r)=(0,0):=by
 match r,hr with
 |[],_=>simp only [Zp,if_neg h,if_neg h2]
 |[_],_=>simp only [Zp,if_neg h,if_neg h2]
 |_::_::_,hr=>simp at hr;omega
theorem ZuY {big:Bool} {a b c d:UInt8} {r:List UInt8} (h:¬(Zm big a b<55296∨57344≤Zm big a b))(h2:¬56320≤Zm big a b)(h3:Zm big c d<56320∨57344≤Zm big c d):Zp big (a::b::c::d::r)=(0,0):=by
 simp only [Zp,if_neg h,if_neg h2,if_pos h3]
theorem ZuV {big:Bool} {a b c d:UInt8} {r:List UInt8} (h:¬(Zm big a b<55296∨57344≤Zm big a b))(h2:¬56320≤Zm big a b)(h3:¬(Zm big c d<56320∨57344≤Zm big c d)):
 Zp big (a::b::c::d::r)=(65536+(Zm big a b - 55296)*1024+(Zm big c d - 56320),4):=by
 simp only [Zp,if_neg h,if_neg h2,if_neg h3]
theorem ZjQ (s:ByteArray)(i:Nat)(hi:i≤s.size)(hs:s.size≤140737488355328)(big:Bool)(w:World):
 Calls Tryz.prog 193 #[.string s,.int .i64 i,.bool big] w fun e w'=>e= .returned (.tuple #[.int .i32 (Zp big (s.data.toList.drop i)).1,.int .i64 (Zp big (s.data.toList.drop i)).2])∧Below w.heap.size w w':=by
 have hl:=Zna s i;by_cases h2:i+1<s.size
 · have hd:=Zkx s i h2;have u1:=ZjU s i h2 hs big;have hr:=Zgh big s[i] s[i+1];have lo:=@ZuW big s[i] s[i+1] (s.data.toList.drop (i+2));have mi:=@ZuX big s[i] s[i+1] (s.data.toList.drop (i+2));have sh:=@Zu0 big s[i] s[i+1] (s.data.toList.drop (i+2));have no:=fun c d=>@ZuY big s[i] s[i+1] c d (s.data.toList.drop (i+2+2));have fo:=fun c d=>@ZuV big s[i] s[i+1] c d (s.data.toList.drop (i+2+2));have hl2:=Zna s (i+2);generalize Zm big s[i] s[i+1]=u at*;by_cases c1:u<55296
   · have hw:Hid (Zp big (s.data.toList.drop i)=(u,2)):=by rw [hd];exact lo (.inl c1)
     rw [hw.out];clear hl hd lo mi sh no fo hl2;go_enter Tryz.func193,Tryz.ntmps193
     go_wp2_with (go_at_call 282;refine(u1 _).mono ?_;rintro e w1 ⟨rfl,hb1⟩)
     go_ret2
     exact⟨rfl,hb1⟩
   by_cases c2:57344≤u
   · have hw:Hid (Zp big (s.data.toList.drop i)=(u,2)):=by rw [hd];exact lo (.inr c2)
     rw [hw.out];clear hl hd lo mi sh no fo hl2;go_enter Tryz.func193,Tryz.ntmps193
     go_wp2_with (go_at_call 282;refine(u1 _).mono ?_;rintro e w1 ⟨rfl,hb1⟩)
     go_ret2
     exact⟨rfl,hb1⟩
   have hn:¬(u<55296∨57344≤u):=by omega
   by_cases c3:56320≤u
   · have hw:Hid (Zp big (s.data.toList.drop i)=(0,0)):=by rw [hd];exact mi hn c3
     rw [hw.out];clear hl hd lo mi sh no fo hl2 hn;go_enter Tryz.func193,Tryz.ntmps193
     go_wp2_with (go_at_call 282;refine(u1 _).mono ?_;rintro e w1 ⟨rfl,hb1⟩)
     go_ret2
     exact⟨rfl,hb1⟩
   by_cases c4:s.size<i+4
   · have hw:Hid (Zp big (s.data.toList.drop i)=(0,0)):=by rw [hd];exact sh hn c3 (by omega)
     rw [hw.out];clear hl hd lo mi sh no fo hl2 hn;go_enter Tryz.func193,Tryz.ntmps193
     go_wp2_with (go_at_call 282;refine(u1 _).mono ?_;rintro e w1 ⟨rfl,hb1⟩)
     go_ret2
     exact⟨rfl,hb1⟩
   have h4:i+2+1<s.size:=by omega
   have hd2:=Zkx s (i+2) h4;have u2:=ZjU s (i+2) h4 hs big;rw [show(((i+2:Nat):Int))=(i:Int)+2 from by omega] at u2;have hr2:=Zgh big s[i+2] s[i+2+1];have no:=no s[i+2] s[i+2+1];have fo:=fo s[i+2] s[i+2+1];generalize Zm big s[i+2] s[i+2+1]=v at*;by_cases c5:v<56320
   · have hw:Hid (Zp big (s.data.toList.drop i)=(0,0)):=by rw [hd,hd2];exact no hn c3 (.inl c5)
     rw [hw.out];clear hl hd lo mi sh no fo hl2 hn hd2;go_enter Tryz.func193,Tryz.ntmps193
     go_wp2_with (go_at_call 282;first|(refine(u1 _).mono ?_;rintro e w1 ⟨rfl,hb1⟩;have hz1:=hb1.size;clear u1)|(refine(u2 _).mono ?_;rintro e w2 ⟨rfl,hb2⟩))
     go_ret2
     exact⟨rfl,hb1.trans (hb2.mono hz1)⟩
   by_cases c6:57344≤v
   · have hw:Hid (Zp big (s.data.toList.drop i)=(0,0)):=by rw [hd,hd2];exact no hn c3 (.inr c6)
     rw [hw.out];clear hl hd lo mi sh no fo hl2 hn hd2;go_enter Tryz.func193,Tryz.ntmps193
     go_wp2_with (go_at_call 282;first|(refine(u1 _).mono ?_;rintro e w1 ⟨rfl,hb1⟩;have hz1:=hb1.size;clear u1)|(refine(u2 _).mono ?_;rintro e w2 ⟨rfl,hb2⟩))
     go_ret2
     exact⟨rfl,hb1.trans (hb2.mono hz1)⟩
   have hw:Hid (Zp big (s.data.toList.drop i)=(65536+(u - 55296)*1024+(v - 56320),4)):=by rw [hd,hd2];exact fo hn c3 (by omega)
   rw [hw.out];clear hl hd lo mi sh no fo hl2 hn hd2;go_enter Tryz.func193,Tryz.ntmps193
   go_wp2_with (go_at_call 282;first|(refine(u1 _).mono ?_;rintro e w1 ⟨rfl,hb1⟩;have hz1:=hb1.size;clear u1)|(refine(u2 _).mono ?_;rintro e w2 ⟨rfl,hb2⟩))
   go_ret2
   exact⟨by simp,hb1.trans (hb2.mono hz1)⟩
 · have hw:Hid (Zp big (s.data.toList.drop i)=(0,0)):=by
    generalize s.data.toList.drop i=l at*
    match l,hl with
    |[],_=>rfl
    |[_],_=>rfl
    |_::_::_,h=>simp at h;omega
   rw [hw.out];clear hl;go_enter Tryz.func193,Tryz.ntmps193
   go_wp2_with fail
   go_ret2
   exact⟨rfl,Below.refl _ _⟩
def Zqe (big:Bool)(ps:List Int)(w0:World)(O:Obj)(v i:Value)(wr:World):Prop:=
 ∃k j:Nat,ZaP big ps k j∧i= .int .i64 j∧wr.ownsRow (w0.heap.size+1) 5 1 v (ZH (ps.take k)).length ((ZH (ps.take k)).map (Value.int .u8))∧Below (w0.heap.size+1) (w0.alloc O) wr
theorem Zdf.sgn {big:Bool} {s:ByteArray} {ps:List Int} {k i n:Nat} {p:Int} (h:Zdf big s ps k i p n)(hi:i≤s.size)(hs:s.size≤140737488355328)(w:World):
 Calls Tryz.prog 193 #[.string s,.int .i64 i,.bool big] w fun e w'=>e= .returned (.tuple #[.int .i32 p,.int .i64 n])∧Below w.heap.size w w':=by
 have h2:=ZjQ s i hi hs big w;rw [h.sign] at h2;exact h2
theorem ZpM {big:Bool} {s:ByteArray} {i:Nat} (hd:(Zp big (s.data.toList.drop i)).2=0)(hi:i≤s.size)(hs:s.size≤140737488355328)(w:World):
 Calls Tryz.prog 193 #[.string s,.int .i64 i,.bool big] w fun e w'=>(∃x,e= .returned (.tuple #[.int .i32 x,.int .i64 0]))∧Below w.heap.size w w':=by
 have h2:=ZjQ s i hi hs big w;rw [hd] at h2;exact h2.mono fun e w' ⟨he,hb⟩=>⟨⟨_,he⟩,hb⟩
theorem ZjW (big:Bool)(s:ByteArray)(ps:List Int)(r:List UInt8)(hp:Zde big s ps r)(hr:r=[]∨(Zp big r).2=0)(hs:s.size≤35184372088000)(w:World):
 Calls Tryz.prog 116 #[.string s,.bool big] w fun e w'=>
  ((r=[]∧e= .returned (.tuple #[.string ⟨(Zb ps).toArray⟩,.agg #[.int .i64 0,.int .i64 0]]))∨(r≠[]∧e= .returned (.tuple #[.string ⟨#[]⟩,.agg #[.int .i64 2,.int .i64 (ZX big ps).length]])))∧Below w.heap.size w w':=by
 go_enter Tryz.func116,Tryz.ntmps116
 go_wp2_with fail
 go_loopw [6,7] (fun v i wr=>Zqe big ps w (.cells #[.int .i64 0,.int .i64 0] 33) v i wr) (fun _ i _=>s.size - (intOf i).toNat)
 case atStart=>exact⟨0,0,ZaP.zero _ _,rfl,World.ownsRow_nil _ _ _ _,Below.refl _ _⟩
 case round=>
  obtain⟨k,i,hrun,rfl,hown,hb⟩:=hrel;have hle:=hrun.le hp;have hsz:=hb.size;have hsz':w.heap.size+1≤wr.heap.size:=by simpa using hsz
  have h4k:=(Zah (ps.take k)).2;rw [List.length_take] at h4k;have hzl:=Zgb (ps.take k);by_cases hk:k<ps.length
  · obtain⟨p,n,hst,hrun',hn1,hn4,hin,hp0,hp1⟩:=hrun.step hp hk;have hcap:(ZH (ps.take k)).length+4≤140737488355328:=by omega
    have hnext:Hid ((ZH (ps.take (k+1))).map (Value.int .u8)=(ZH (ps.take k)).map (Value.int .u8)++Lib.runeCells p):=by
     rw [hst.snoc hk,Zgc,List.map_append];rfl
    have hnext2:Hid ((ZH (ps.take (k+1))).length=(ZH (ps.take k)).length+(Lib.runeCells p).length):=by
     have:=congrArg List.length hnext.out;simp only [List.length_map,List.length_append] at this;exact this
    clear h4k hzl;go_wp2_with (first|(go_at_call 193;refine(hst.sgn (by omega) (by omega) _).mono ?_;rintro e w1 ⟨rfl,hb1⟩;have hown1:=Zt hown hb1;have hB1:=hb.trans (hb1.mono hsz');have hsz1:=hB1.size)|(go_at_call 194;refine(Tryz.utf8_AppendRune_plain _ _ _ _ p (by omega) (by omega) _ hown1 hcap (by simp at hsz1;omega)).mono ?_;rintro e w2 ⟨v',rfl,hown2,o,hg2⟩))
    have hb2:=Z3 (hB1.alloc (by simp at hsz1;omega) o) (hown1.alloc o) hg2 (by simp at hsz1⊢;omega) (Nat.le_refl _);rw [←hnext.out,←hnext2.out] at hown2;go_roundw
    case rel=>exact⟨k+1,i+n,hrun',by go_num,hown2,hb2⟩
    case measure=>simp [intOf];omega
  · have hk2:k=ps.length:=by omega
    subst hk2;obtain⟨hi2,hdr,hir⟩:=hrun.end_ hp;rw [List.take_length] at hown;by_cases hr0:r=[]
    · have hge:¬i<s.size:=by rw [hr0] at hir;simp at hir;omega
      have hconv:=ZdP (P:=Tryz.prog) 79 9 5 Tryz.underlying79 Tryz.underlying5 Tryz.underlying9 wr hown;rw [Zf8] at hconv;obtain⟨hc0,hc1,hf0,hf1,hlt1⟩:=Zbu hb;clear hdr hir hi2;go_wp2_with fail
      refine bodyPost_ret (v:= .tuple #[.string ⟨(Zb ps).toArray⟩,.agg #[.int .i64 0,.int .i64 0]]) (by simp [results,Tryz.results116,go_sem,hc0,hc1]) rfl ⟨.inl ⟨hr0,rfl⟩,?_⟩;exact((((Below.refl _ w).alloc (Nat.le_refl _) _).trans (hb.mono (by omega))).setCell (Nat.le_refl _) _).setCell (Nat.le_refl _) _
    · have hlt:i<s.size:=by have:=List.length_pos_iff.2 hr0;omega
      have he:(Zp big (s.data.toList.drop i)).2=0:=by rw [hdr];exact hr.resolve_left hr0
      have Hi:=Lib.hid hi2;clear hdr hir hi2;go_wp2_with (go_at_call 193;refine(ZpM he (by omega) (by omega) _).mono ?_;rintro e w1 ⟨⟨x,rfl⟩,hb1⟩;have hB1:=hb.trans (hb1.mono hsz');obtain⟨hc0,hc1,hf0,hf1,hlt1⟩:=Zbu hB1)
      refine bodyPost_ret (v:= .tuple #[.string ⟨#[]⟩,.agg #[.int .i64 2,.int .i64 i]]) (by simp [results,Tryz.results116,go_sem,hc0,hc1]) rfl ⟨.inr ⟨hr0,by rw [←Hi.out]⟩,?_⟩;exact((((Below.refl _ w).alloc (Nat.le_refl _) _).trans (hB1.mono (by omega))).setCell (Nat.le_refl _) _).setCell (Nat.le_refl _) _
theorem Zqg (big:Bool)(s:ByteArray)(ps:List Int)(hp:Zfh big s ps)(hs:s.size≤35184372088000)(w:World):
 Calls Tryz.prog 116 #[.string s,.bool big] w fun e w'=>e= .returned (.tuple #[.string ⟨(Zb ps).toArray⟩,.agg #[.int .i64 0,.int .i64 0]])∧Below w.heap.size w w':=by
 refine(ZjW big s ps [] hp (.inl rfl) hs w).mono fun e w' ⟨h,hb⟩=> ?_;rcases h with⟨_,h⟩|⟨h,_⟩
 · exact⟨h,hb⟩
 · exact absurd rfl h
theorem Zqf (big:Bool)(s:ByteArray)(n:Nat)(hg:Zfg big s n)(hs:s.size≤35184372088000)(w:World):
 Calls Tryz.prog 116 #[.string s,.bool big] w fun e w'=>e= .returned (.tuple #[.string ⟨#[]⟩,.agg #[.int .i64 2,.int .i64 n]])∧Below w.heap.size w w':=by
 obtain⟨ps,r,hp,rfl,hr,he⟩:=hg;refine(ZjW big s ps r hp (.inr he) hs w).mono fun _ _ ⟨h,hb⟩=> ?_;rcases h with⟨h,_⟩|⟨_,h⟩
 · exact absurd h hr
 · exact⟨h,hb⟩
def behind (s:ByteArray):ByteArray:=s.extract 2 s.size
def ZaH:List (Int×Int×Int)→List Int→Int
 |[],_=> -1
 |t::r,l=>if 1<l.length∧l.getD 0 0=t.2.1∧l.getD 1 0=t.2.2 then t.1 else ZaH r l
def Zdk (c:Int):List UInt8:=[(c / 256).toNat.toUInt8,(c % 256).toNat.toUInt8]
def ZY (p:Int):Int:=if p<0∨65535<p then -1 else Zbc SP p
def ZdM (l:List Int):List UInt8×Int:=
 if l=[] then([],0) else if 0≤ZaH TW l then(Zdk (136*256+ZaH TW l),2) else if 0≤ZY (l.getD 0 0) then(Zdk (ZY (l.getD 0 0)),1) else([],0)
def ZdU:List UInt8→List UInt8→Bool
 |[],[]=>true
 |a::l,b::r=>Nat.beq a.toNat b.toNat&&ZdU l r
 |_,_=>false
theorem ZkK:∀(l r:List UInt8),ZdU l r=true→l=r
 |[],[],_=>rfl
 |a::l,b::r,h=>by
  simp only [ZdU,Bool.and_eq_true] at h;rw [ZkK l r h.2,UInt8.toNat_inj.1 (Nat.eq_of_beq_eq_true h.1)]
 |[],_::_,h=>by simp [ZdU] at h
 |_::_,[],h=>by simp [ZdU] at h
def rB (n:Int):ByteArray:=⟨(Zb (Zav n)).toArray⟩
theorem litR (n:Int)(d:Array UInt8)(h:ZdU d.toList (Zb (Zav n))=true):ByteArray.mk d=rB n:=by
 have:=ZkK _ _ h;unfold rB;rw [←this]
def Zfr:ByteArray:=⟨#[]⟩
theorem litE:ByteArray.mk #[]=Zfr:=rfl
theorem Ztc {n:Int} (h1:n≠136)(h2:n≠161)(h3:n≠163)(h4:n≠164)(h5:n≠165):rB n=Zfr:=by
 unfold rB Zav;rw [if_neg h1,if_neg h2,if_neg h3,if_neg h4,if_neg h5];rfl
theorem ZtE:[136,161,163,164,165].all (fun n:Int=>(Zav n).all fun p=>Ze p&&decide (p≤65535))=true:=by decide+kernel
theorem ZmN (n:Int):∀p∈Zav n,Ze p=true∧p≤65535:=by
 intro p hp;have h:=List.all_eq_true.1 ZtE;by_cases hn:n=136∨n=161∨n=163∨n=164∨n=165
 · have:=List.all_eq_true.1 (h n (by simp;omega)) p hp;simpa using this
 · simp only [not_or] at hn;obtain⟨h1,h2,h3,h4,h5⟩:=hn;unfold Zav at hp;rw [if_neg h1,if_neg h2,if_neg h3,if_neg h4,if_neg h5] at hp;simp at hp
theorem Zia (n:Int):Good (rB n) (Zav n):=Zdp fun p hp=>(ZmN n p hp).1
theorem Zr6:[136,161,163,164,165].all (fun n:Int=>Nat.ble (Zav n).length 157)=true:=by decide+kernel
theorem Zig (n:Int):(Zav n).length≤157:=by
 by_cases hn:n=136∨n=161∨n=163∨n=164∨n=165
 · have:=List.all_eq_true.1 Zr6 n (by simp;omega);exact Nat.le_of_ble_eq_true this
 · simp only [not_or] at hn;obtain⟨h1,h2,h3,h4,h5⟩:=hn;unfold Zav;rw [if_neg h1,if_neg h2,if_neg h3,if_neg h4,if_neg h5];simp
theorem ZmE (n:Int):(rB n).size≤1000:=by
 have h:=(Zah (Zav n)).2;have h2:=Zig n;rw [(Zia n).size];omega
def Zbk (n:Int)(s1 s2 s3 s4 s5 s0:ByteArray):ByteArray:=if n=136 then s1 else if n=161 then s2 else if n=163 then s3 else if n=164 then s4 else if n=165 then s5 else s0
theorem rB_sel (n:Int):rB n=Zbk n (rB 136) (rB 161) (rB 163) (rB 164) (rB 165) Zfr:=by
 unfold Zbk
 repeat' split
 all_goals (try subst_vars;try rfl)
 exact Ztc (by assumption) (by assumption) (by assumption) (by assumption) (by assumption)
theorem ZjJ (n:Int)(w:World):
 Calls Tryz.prog 51 #[.int .i64 n] w fun e w'=>e= .returned (.string (rB n))∧Below w.heap.size w w':=by
 rw [rB_sel n];refine calls_of_wp Tryz.func51 rfl ?_;rw [litE];rw [litR 136]
 rotate_left
 kernel_rfl
 rw [litR 161]
 rotate_left
 kernel_rfl
 rw [litR 163]
 rotate_left
 kernel_rfl
 rw [litR 164]
 rotate_left
 kernel_rfl
 rw [litR 165]
 rotate_left
 kernel_rfl
 generalize rB 136=s1;generalize rB 161=s2;generalize rB 163=s3;generalize rB 164=s4;generalize rB 165=s5;generalize Zfr=s0;simp only [Tryz.ntmps51,List.size_toArray,List.length_cons,List.length_nil,Nat.reduceAdd,Nat.reduceSub,Array.replicate_succ,Array.replicate_zero,List.push_toArray,List.append_toArray,List.nil_append,List.cons_append];by_cases h1:n=136
 · have e:Zbk n s1 s2 s3 s4 s5 s0=s1:=by unfold Zbk;rw [if_pos h1]
   rw [e];go_wp2_with fail
   go_ret
   exact⟨rfl,Below.refl _ _⟩
 by_cases h2:n=161
 · have e:Zbk n s1 s2 s3 s4 s5 s0=s2:=by unfold Zbk;rw [if_neg h1,if_pos h2]
   rw [e];go_wp2_with fail
   go_ret
   exact⟨rfl,Below.refl _ _⟩
 by_cases h3:n=163
 · have e:Zbk n s1 s2 s3 s4 s5 s0=s3:=by unfold Zbk;rw [if_neg h1,if_neg h2,if_pos h3]
   rw [e];go_wp2_with fail
   go_ret
   exact⟨rfl,Below.refl _ _⟩
 by_cases h4:n=164
 · have e:Zbk n s1 s2 s3 s4 s5 s0=s4:=by unfold Zbk;rw [if_neg h1,if_neg h2,if_neg h3,if_pos h4]
   rw [e];go_wp2_with fail
   go_ret
   exact⟨rfl,Below.refl _ _⟩
 by_cases h5:n=165
 · have e:Zbk n s1 s2 s3 s4 s5 s0=s5:=by unfold Zbk;rw [if_neg h1,if_neg h2,if_neg h3,if_neg h4,if_pos h5]
   rw [e];go_wp2_with fail
   go_ret
   exact⟨rfl,Below.refl _ _⟩
 have e:Zbk n s1 s2 s3 s4 s5 s0=s0:=by unfold Zbk;rw [if_neg h1,if_neg h2,if_neg h3,if_neg h4,if_neg h5]
 rw [e];go_wp2_with fail
 go_ret
 exact⟨rfl,Below.refl _ _⟩
def Zao (c:Int):Int×Int:=if c=34914 then(202,772) else if c=34916 then(202,780) else if c=34979 then(234,772) else if c=34981 then(234,780) else(0,0)
theorem Zpn (lead b:Int)(hl:0≤lead∧lead≤1000)(hb:0≤b∧b≤1000)(w:World):
 Calls Tryz.prog 49 #[.int .i64 lead,.int .i64 b] w fun e w'=>e= .returned (.tuple #[.int .i32 (Zao (lead*256+b)).1,.int .i32 (Zao (lead*256+b)).2])∧Below w.heap.size w w':=by
 obtain⟨l0,l1⟩:=hl;obtain⟨b0,b1⟩:=hb;have hs:∀c:Int,c=34914∨c=34916∨c=34979∨c=34981∨(c≠34914∧c≠34916∧c≠34979∧c≠34981):=fun c=>by omega
 rcases hs (lead*256+b) with h|h|h|h|⟨h1,h2,h3,h4⟩
 · have e:Zao (lead*256+b)=(202,772):=by rw [h];rfl
   rw [e];go_enter Tryz.func49,Tryz.ntmps49
   go_wp2_with fail
   go_ret2
   exact⟨rfl,Below.refl _ _⟩
 · have e:Zao (lead*256+b)=(202,780):=by rw [h];rfl
   rw [e];go_enter Tryz.func49,Tryz.ntmps49
   go_wp2_with fail
   go_ret2
   exact⟨rfl,Below.refl _ _⟩
 · have e:Zao (lead*256+b)=(234,772):=by rw [h];rfl
   rw [e];go_enter Tryz.func49,Tryz.ntmps49
   go_wp2_with fail
   go_ret2
   exact⟨rfl,Below.refl _ _⟩
 · have e:Zao (lead*256+b)=(234,780):=by rw [h];rfl
   rw [e];go_enter Tryz.func49,Tryz.ntmps49
   go_wp2_with fail
   go_ret2
   exact⟨rfl,Below.refl _ _⟩
 · have e:Zao (lead*256+b)=(0,0):=by unfold Zao;rw [if_neg h1,if_neg h2,if_neg h3,if_neg h4]
   rw [e];go_enter Tryz.func49,Tryz.ntmps49
   go_wp2_with fail
   go_ret2
   exact⟨rfl,Below.refl _ _⟩
theorem two_bytes:ZdM [202,772]=(Zdk (136*256+98),2)∧ZdM [202,780]=(Zdk (136*256+100),2)∧ZdM [234,772]=(Zdk (136*256+163),2)∧ZdM [234,780]=(Zdk (136*256+165),2):=by decide+kernel
theorem back (lead b:Int)(h:Z5 lead b≠[]):ZdM (Z5 lead b)=(Zdk (lead*256+b),((Z5 lead b).length:Int)):=by
 by_cases h1:ZM lead b=0
 · have e:Z5 lead b=Za6 lead b:=by unfold Z5;rw [if_neg (by simp [h1])]
   rw [e] at h⊢;by_cases h136:lead=136
   · subst h136;obtain⟨t1,t2,t3,t4⟩:=two_bytes;simp only [Za6,TW,ZaW] at h⊢;by_cases k0:b=98
     · subst k0;exact t1
     by_cases k1:b=100
     · subst k1;exact t2
     by_cases k2:b=163
     · subst k2;exact t3
     by_cases k3:b=165
     · subst k3;exact t4
     simp [k0,k1,k2,k3] at h
   · rw [Zuy h136] at h;exact absurd rfl h
 · have e:Z5 lead b=[ZM lead b]:=by unfold Z5;rw [if_pos h1]
   rw [e];have hs:=Zl4 lead b;have hc:0≤Zz b:=by
    have:=(ZgW b).1;by_cases hc:Zz b<0
    · exact absurd (if_pos hc) h1
    · omega
   have hz:ZM lead b=ZT SP lead (Zz b):=if_neg (by omega);have hf:ZY (ZM lead b)=lead*256+b:=by
    rcases(Zl5 lead b hc).2 with h0|h0
    · rw [←hz] at h0;exact absurd h0 h1
    · unfold ZY;rw [if_neg (by omega),hz];exact h0
   have ht:ZaH TW [ZM lead b]= -1:=by simp [TW,ZaH]
   have hpos:0≤lead*256+b:=by
    have:0≤lead:=by
     by_cases hl:0≤lead
     · exact hl
     · have:=(Zl5 lead b hc).1;rw [←hz] at this;unfold rOne Zav at this;rw [if_neg (by omega),if_neg (by omega),if_neg (by omega),if_neg (by omega),if_neg (by omega),if_neg (by omega)] at this;exact absurd this h1
    have hb:0≤b:=by unfold Zz at hc;repeat' split at hc
                    all_goals omega
    omega
   unfold ZdM;rw [if_neg (by simp),ht,if_neg (by decide)];have e0:[ZM lead b].getD 0 0=ZM lead b:=rfl;rw [e0,hf,if_pos hpos];rfl
def mt (b:Int)(l:List Int):Prop:=(Zao (136*256+b)).1≠0∧(Zao (136*256+b)).1=l.getD 0 0∧(Zao (136*256+b)).2=l.getD 1 0
theorem ZiC (l:List Int)(h:1<l.length):ZaH TW l=if l.getD 0 0=202∧l.getD 1 0=772 then 98 else if l.getD 0 0=202∧l.getD 1 0=780 then 100 else if l.getD 0 0=234∧l.getD 1 0=772 then 163 else if l.getD 0 0=234∧l.getD 1 0=780 then 165 else -1:=by
 simp only [ZaH,TW,h,true_and]
theorem mt_two {b:Int} {l:List Int} (hl:1<l.length)(h:mt b l):ZaH TW l=b:=by
 rw [ZiC l hl];unfold mt Zao at h;obtain⟨h1,h2,h3⟩:=h;generalize l.getD 0 0=x at*;generalize l.getD 1 0=y at*;by_cases e1:136*256+b=34914
 · rw [if_pos e1] at h2 h3;subst h2;subst h3;simp;omega
 rw [if_neg e1] at h1 h2 h3;by_cases e2:136*256+b=34916
 · rw [if_pos e2] at h2 h3;subst h2;subst h3;simp;omega
 rw [if_neg e2] at h1 h2 h3;by_cases e3:136*256+b=34979
 · rw [if_pos e3] at h2 h3;subst h2;subst h3;simp;omega
 rw [if_neg e3] at h1 h2 h3;by_cases e4:136*256+b=34981
 · rw [if_pos e4] at h2 h3;subst h2;subst h3;simp;omega
 rw [if_neg e4] at h1;exact absurd rfl h1
theorem ZuD {l:List Int} (h:∀b:Nat,64≤b→b<255→¬mt b l):ZaH TW l= -1:=by
 by_cases hl:1<l.length
 · rw [ZiC l hl];have h1:=h 98 (by omega) (by omega);have h2:=h 100 (by omega) (by omega);have h3:=h 163 (by omega) (by omega);have h4:=h 165 (by omega) (by omega);unfold mt at h1 h2 h3 h4;rw [show Zao (136*256+((98:Nat):Int))=(202,772) from rfl] at h1;rw [show Zao (136*256+((100:Nat):Int))=(202,780) from rfl] at h2;rw [show Zao (136*256+((163:Nat):Int))=(234,772) from rfl] at h3;rw [show Zao (136*256+((165:Nat):Int))=(234,780) from rfl] at h4;generalize l.getD 0 0=x at*;generalize l.getD 1 0=y at*;rw [if_neg (fun e=>h1 ⟨by decide,e.1.symm,e.2.symm⟩),if_neg (fun e=>h2 ⟨by decide,e.1.symm,e.2.symm⟩),if_neg (fun e=>h3 ⟨by decide,e.1.symm,e.2.symm⟩),if_neg (fun e=>h4 ⟨by decide,e.1.symm,e.2.symm⟩)]
 · simp only [ZaH,TW,hl,false_and,if_false]
def Zcd (l:List (Int×Int×List Int))(p:Int):Int:=if p=63 then -1 else Zbc l p
theorem ZkP {l:List (Int×Int×List Int)} {p:Int} (h:∀t∈l,p∉t.2.2):Zbc l p= -1:=by
 induction l with
 |nil=>rfl
 |cons t l ih=>
  simp only [Zbc];rw [if_pos (by rw [Zk0.2 (h t (by simp))];decide)];exact ih fun x hx=>h x (by simp [hx])
theorem Zo9 {t:Int×Int×List Int} (h:t∈RL):t.2.2=Zav t.1:=by
 simp only [RL,List.mem_cons,List.not_mem_nil,or_false] at h;rcases h with rfl|rfl|rfl|rfl|rfl<;>rfl
theorem ZkQ (p:Int):Zcd RL p=ZY p:=by
 unfold Zcd ZY;by_cases h63:p=63
 · subst h63;rw [if_pos rfl,if_neg (by omega),Zrr]
 · rw [if_neg h63];by_cases hp:p<0∨65535<p
   · rw [if_pos hp];refine ZkP fun t ht hm=> ?_;rw [Zo9 ht] at hm;obtain⟨h1,h2⟩:=ZmN t.1 p hm;have:=Z1.1 h1;omega
   · rw [if_neg hp,Zrt h63]
def ldN (k:Nat):Int:=(RL.getD k (0,0,[])).1
theorem Zlw:∀k,k<5→136≤ldN k∧ldN k≤165:=by decide
theorem Zo8 {k:Nat} (h:k<5):RL.drop k=(ldN k,64,Zav (ldN k))::RL.drop (k+1):=by
 have h5:k=0∨k=1∨k=2∨k=3∨k=4:=by omega
 rcases h5 with rfl|rfl|rfl|rfl|rfl<;>rfl
theorem ZqG:Zz 64=0:=by decide
theorem ZkR {k:Nat} (h:k<5)(p:Int):Zcd (RL.drop k) p=if p=63∨fnd (Zav (ldN k)) p<0 then Zcd (RL.drop (k+1)) p else ldN k*256+Z8 (fnd (Zav (ldN k)) p):=by
 rw [Zo8 h];unfold Zcd;by_cases h63:p=63
 · simp [h63]
 · simp only [Zbc,ZqG,Int.zero_add,h63,false_or,if_false]
def ZaJ (l:List Int):Int×Int:=
 if l=[] then(-1,0) else if 0≤ZaH TW l then(136*256+ZaH TW l,2) else if 0≤ZY (l.getD 0 0) then(ZY (l.getD 0 0),1) else(-1,0)
def Zb7 (l:List Int)(w0:World)(e:Ending)(w':World):Prop:=e= .returned (.tuple #[.int .i64 (ZaJ l).1,.int .i64 (ZaJ l).2])∧Below w0.heap.size w0 w'
theorem ZkX (ps:List Int)(p:Int)(k:Nat)(h:∀j,j<k→ps.getD j 0≠p)(hk:k<ps.length)(he:ps.getD k 0=p):fnd ps p=k:=by
 induction ps generalizing k with
 |nil=>simp at hk
 |cons q ps ih=>
  cases k with
  |zero=>simp at he;simp [fnd,he]
  |succ k=>
   have h0:q≠p:=by simpa using h 0 (by omega)
   have:=ih k (fun j hj=>by simpa using h (j+1) (by omega)) (by simpa using hk) (by simpa using he);unfold fnd;rw [if_neg h0,if_neg (by omega),this];simp
theorem ZkY (ps:List Int)(p:Int)(h:∀j,j<ps.length→ps.getD j 0≠p):fnd ps p= -1:=by
 rw [Zk0];intro hm;obtain⟨j,hj,e⟩:=List.getElem_of_mem hm;refine h j hj ?_;rw [List.getD_eq_getElem?_getD,List.getElem?_eq_getElem hj];simpa using e
theorem Zjr (w:World):Calls Tryz.prog 50 #[] w fun e w'=>∃ad c,e= .returned (.slice (some ad) 5 c)∧ZA w' w'.heap.size .i64 (some ad) [136,161,163,164,165]∧Below w.heap.size w w':=by
 go_enter Tryz.func50,Tryz.ntmps50
 go_wp2
 go_ret
 exact⟨_,_,rfl,by have:=Zc1 w 3 [136,161,163,164,165] .i64;simpa using this,(Below.refl _ w).alloc (Nat.le_refl _) _⟩
theorem Zn3 (A:Option Addr)(c:Nat)(w:World):
 Calls Tryz.prog 25 #[.slice A 0 c] w (Zb7 [] w):=by
 go_enter Tryz.func25,Tryz.ntmps25
 go_wp2_with fail
 go_ret2
 exact⟨rfl,Below.refl _ _⟩
def C1Rel (l:List Int)(w0:World)(i:Value)(wr:World):Prop:=∃b:Nat,64≤b∧b≤255∧i= .int .i64 b∧(∀b':Nat,64≤b'→b'<b→¬mt b' l)∧Below w0.heap.size w0 wr
def Zi7 (p:Int)(w0:World)(i:Value)(wr:World):Prop:=∃k:Nat,k≤5∧i= .int .i64 k∧ZY p=Zcd (RL.drop k) p∧Below w0.heap.size w0 wr
def Zi8 (ps:List Int)(p:Int)(w0:World)(at_ i:Value)(wr:World):Prop:=∃k j:Nat,Run ps k j∧at_= .int .i64 j∧i= .int .i64 k∧(p=63∨∀j',j'<k→ps.getD j' 0≠p)∧Below w0.heap.size w0 wr
theorem Zn4 (ad:Addr)(c:Nat)(l:List Int)(w:World)(hn:ZA w w.heap.size .i32 (some ad) l)(h1:0<l.length)(hl:l.length≤2000000):
 Calls Tryz.prog 25 #[.slice (some ad) l.length c] w (Zb7 l w):=by
 generalize hP:Zb7 l w=P at*;obtain⟨ad',ha',_,ca⟩:=hn.at_ (i:=0) h1;cases ha'
 rw [Addr.add_zero'] at ca;by_cases h2:1<l.length
 · obtain⟨ad',ha',_,cb0⟩:=hn.at_ (i:=1) h2;cases ha'
   have cb:w.cell? ⟨ad.block,ad.off+1,none⟩=some (.int .i32 (l.getD 1 0)):=by simpa [Addr.add] using cb0
   have hmts:∀b:Int,mt b l↔((Zao (136*256+b)).1≠0∧(Zao (136*256+b)).1=l.getD 0 0∧(Zao (136*256+b)).2=l.getD 1 0):=fun b=>Iff.rfl;have Hx:=Lib.hid (show l.getD 0 0=l.getD 0 0 from rfl);clear hn cb0 Hx;generalize hxl:l.getD 0 0=x at*;generalize l.getD 1 0=y at*;have Hx:=Lib.hid hxl;have Hmt:=Lib.hid hmts;clear hxl hmts;have H2:=Lib.hid h2;have h2':(1:Int)<l.length:=by omega
   have hd:decide ((1:Int)<l.length)=true:=decide_eq_true h2';have hz0:((l.length:Int)==0)=false:=beq_eq_false_iff_ne.2 (by omega);clear h2;go_enter Tryz.func25,Tryz.ntmps25
   go_wp2_with fail
   clear hd;go_loopw [4] (fun i wr=>C1Rel l w i wr) (fun i _=>255 - (intOf i).toNat)
   case atStart=>exact⟨64,by omega,by omega,rfl,fun b' h1 h2=>absurd h2 (by omega),Below.refl _ _⟩
   case round=>
    obtain⟨b,hb0,hb255,rfl,hno,hbr⟩:=hrel;by_cases hb:b<255
    · have ht:=fun w=>Zpn 136 b (by decide) ⟨by omega,by omega⟩ w;have hmt:=Hmt.out b;have hret:mt b l→ZaJ l=(34816+(b:Int),2):=by
       intro h;have e:=mt_two H2.out h;unfold ZaJ;rw [if_neg (by intro e;rw [e] at h1;simp at h1),e,if_pos (by omega)];congr 1
      have Hret:=Lib.hid hret;clear hret;generalize (Zao (136*256+(b:Int))).1=p at*;generalize (Zao (136*256+(b:Int))).2=q at*;by_cases hp0:p=0
      · subst hp0;have hnm:¬mt b l:=fun h=>(hmt.1 h).1 rfl;clear hmt;go_wp2_with (first|(go_at_call 49;refine(ht _).mono ?_;rintro e w1 ⟨rfl,hb1⟩;have hB1:=hbr.trans (hb1.mono hbr.size);have ca1:=ZC ca hB1;have cb1:=ZC cb hB1))
        go_roundw
        case rel=>exact⟨b+1,by omega,by omega,by go_num,fun b' h1 h2=>(by by_cases e:b'=b;rw [e];exact hnm;exact hno b' h1 (by omega)),hB1⟩
        case measure=>simp [intOf];omega
      · have hpb:(p !=0)=true:=by simpa using hp0
        by_cases hpx:p=x
        · by_cases hqy:q=y
          · have hm:mt b l:=hmt.2 ⟨hp0,hpx,hqy⟩;have Hv:=Lib.hid (Hret.out hm);clear hmt hm Hret hno;subst hpx hqy;go_wp2_with (first|(go_at_call 49;refine(ht _).mono ?_;rintro e w1 ⟨rfl,hb1⟩;have hB1:=hbr.trans (hb1.mono hbr.size);have ca1:=ZC ca hB1;have cb1:=ZC cb hB1))
            show P (.returned (.tuple #[.int .i64 (34816+b),.int .i64 2])) _
            rw [←hP];unfold Zb7;rw [Hv.out];exact⟨rfl,hB1⟩
          · have hqb:(q==y)=false:=by simpa using hqy
            subst hpx;have hnm:¬mt b l:=fun h=>hqy (hmt.1 h).2.2;clear hmt;go_wp2_with (first|(go_at_call 49;refine(ht _).mono ?_;rintro e w1 ⟨rfl,hb1⟩;have hB1:=hbr.trans (hb1.mono hbr.size);have ca1:=ZC ca hB1;have cb1:=ZC cb hB1))
            go_roundw
            case rel=>exact⟨b+1,by omega,by omega,by go_num,fun b' h1 h2=>(by by_cases e:b'=b;rw [e];exact hnm;exact hno b' h1 (by omega)),hB1⟩
            case measure=>simp [intOf];omega
        · have hxb:(p==x)=false:=by simpa using hpx
          have hnm:¬mt b l:=fun h=>hpx (hmt.1 h).2.1;clear hmt;go_wp2_with (first|(go_at_call 49;refine(ht _).mono ?_;rintro e w1 ⟨rfl,hb1⟩;have hB1:=hbr.trans (hb1.mono hbr.size);have ca1:=ZC ca hB1;have cb1:=ZC cb hB1))
          go_roundw
          case rel=>exact⟨b+1,by omega,by omega,by go_num,fun b' h1 h2=>(by by_cases e:b'=b;rw [e];exact hnm;exact hno b' h1 (by omega)),hB1⟩
          case measure=>simp [intOf];omega
    · have hbe:b=255:=by omega
      subst hbe;have hno:=Lib.hid (ZuD hno);clear hb hb0 hb255 cb Hmt;have cat:=ZC ca hbr;clear ca;go_wp2_with (first|(go_at_call 50;refine(Zjr _).mono ?_;rintro e w3 ⟨adL,cL,rfl,hnL,hb3⟩))
      have hb0:=hbr.trans (hb3.mono hbr.size);have ca3:=ZC cat hb3;go_loopw [8] (fun i wr=>Zi7 x w3 i wr) (fun i _=>5 - (intOf i).toNat)
      case atStart=>exact⟨0,by omega,rfl,(ZkQ x).symm,Below.refl _ _⟩
      case round=>
       obtain⟨i,hi5,rfl,heq,hbr⟩:=hrel;by_cases hi:i<5
       · have hstep:=Lib.hid (ZkR hi x);have Heq:=Lib.hid heq;clear heq;obtain⟨ld0,ld1⟩:=Zlw i hi;obtain⟨ad',ha',_,cl⟩:=(hnL.below hbr).at_ (i:=i) (by simpa using hi);cases ha'
         have hld:[136,161,163,164,165].getD i 0=ldN i:=by
          have h5:i=0∨i=1∨i=2∨i=3∨i=4:=by omega
          rcases h5 with rfl|rfl|rfl|rfl|rfl<;>rfl
         rw [hld] at cl;have hrow:=ZjJ (ldN i);have hg:=Zia (ldN i);have hsz:=ZmE (ldN i);have hln:=Zig (ldN i);clear hld;generalize rB (ldN i)=s at*;generalize Zav (ldN i)=ps at*;generalize ldN i=L at*;have ca2:=ZC ca3 hbr;go_wp2_with (first|(go_at_call 51;refine(hrow _).mono ?_;rintro e w4 ⟨rfl,hb4⟩))
         have hb34:=hbr.trans (hb4.mono hbr.size);have cl4:=ZC cl hb4;have ca4:=ZC ca2 hb4;clear cl ca2 hrow;go_loopw [10,11] (fun a c wr=>Zi8 ps x w4 a c wr) (fun a _ _=>s.size - (intOf a).toNat)
         case atStart=>exact⟨0,0,Run.zero _,rfl,rfl,.inr (fun j hj=>absurd hj (by omega)),Below.refl _ _⟩
         case round=>
          obtain⟨k,j,hrun,rfl,rfl,hno3,hbq⟩:=hrel;have hle:=hrun.le hg.pre;by_cases hk:k<ps.length
          · obtain⟨q,m,hst,hrun',hn1,hn4,hin,_,_,_⟩:=hrun.step hg.pre hk;have hgp:ps.getD k 0=q:=by
             have h1:=hst.snoc hk;rw [ZbR hk] at h1;simpa using h1
            by_cases hq:q=x
            · by_cases h63:x=63
              · clear hgp hno3;subst hq;go_wp2_with (first|(go_at_call 16;refine(ZbH hst (by omega) (by omega) _).mono ?_;rintro e w5 ⟨rfl,hb5⟩;have hB5:=hbq.trans (hb5.mono hbq.size);have cl5:=ZC cl4 hB5;have ca5:=ZC ca4 hB5))
                go_roundw
                case rel=>exact⟨k+1,j+m,hrun',by go_num,by go_num,.inl h63,hB5⟩
                case measure=>simp [intOf];omega
              · have hfn:=ZkX ps x k (hno3.resolve_left h63) hk (by rw [hgp,hq]);have hval:=Lib.hid (show ZY x=L*256+Z8 k by
                 rw [Heq.out,hstep.out,if_neg (by intro h;rcases h with h|h;exact h63 h;omega),hfn])
                clear hgp hno3 hfn Heq hstep;have hre:∀v:Int,v=L*256+Z8 k→ZaJ l=(v,1):=by
                 intro v hv;have h0:0≤L*256+Z8 k:=by unfold Z8;split<;>omega
                 unfold ZaJ;rw [if_neg (by intro e;rw [e] at h1;simp at h1),hno.out,if_neg (by decide),Hx.out,hval.out,if_pos h0,hv]
                have Hre:=Lib.hid hre;clear hre hval;have h63b:(x !=63)=true:=by simpa using h63
                subst hq;by_cases hc:k<63
                · have hsk:L*256+64+k=L*256+Z8 k:=by unfold Z8;rw [if_pos (by omega)];omega
                  have Hk:=Lib.hid hsk;clear hsk;go_wp2_with (first|(go_at_call 16;refine(ZbH hst (by omega) (by omega) _).mono ?_;rintro e w5 ⟨rfl,hb5⟩;have hB5:=hbq.trans (hb5.mono hbq.size);have cl5:=ZC cl4 hB5;have ca5:=ZC ca4 hB5))
                  show P (.returned (.tuple #[.int .i64 (L*256+64+k),.int .i64 1])) _
                  rw [←hP];unfold Zb7;rw [Hre.out _ Hk.out];exact⟨rfl,(hb0.trans (hb34.mono hb0.size)).trans (hB5.mono (Nat.le_trans hb0.size hb34.size))⟩
                · have hsk:L*256+161+k - 63=L*256+Z8 k:=by unfold Z8;rw [if_neg (by omega)];omega
                  have Hk:=Lib.hid hsk;clear hsk;go_wp2_with (first|(go_at_call 16;refine(ZbH hst (by omega) (by omega) _).mono ?_;rintro e w5 ⟨rfl,hb5⟩;have hB5:=hbq.trans (hb5.mono hbq.size);have cl5:=ZC cl4 hB5;have ca5:=ZC ca4 hB5))
                  show P (.returned (.tuple #[.int .i64 (L*256+161+k - 63),.int .i64 1])) _
                  rw [←hP];unfold Zb7;rw [Hre.out _ Hk.out];exact⟨rfl,(hb0.trans (hb34.mono hb0.size)).trans (hB5.mono (Nat.le_trans hb0.size hb34.size))⟩
            · have hqb:(q==x)=false:=by simpa using hq
              have hno4:x=63∨∀j',j'<k+1→ps.getD j' 0≠x:=by
               rcases hno3 with h|h
               · exact .inl h
               · refine .inr fun j' hj'=> ?_;by_cases e:j'=k
                 · rw [e,hgp];exact hq
                 · exact h j' (by omega)
              clear hgp hno3;go_wp2_with (first|(go_at_call 16;refine(ZbH hst (by omega) (by omega) _).mono ?_;rintro e w5 ⟨rfl,hb5⟩;have hB5:=hbq.trans (hb5.mono hbq.size);have cl5:=ZC cl4 hB5;have ca5:=ZC ca4 hB5))
              go_roundw
              case rel=>exact⟨k+1,j+m,hrun',by go_num,by go_num,hno4,hB5⟩
              case measure=>simp [intOf];omega
          · have hk2:k=ps.length:=by omega
            subst hk2;obtain⟨hi2,hdr,hir⟩:=hrun.end_ hg.pre;have hge:¬j<s.size:=by simp at hir;omega
            have hval:ZY x=Zcd (RL.drop (i+1)) x:=by
             rw [Heq.out,hstep.out];rcases hno3 with h|h
             · rw [if_pos (.inl h)]
             · rw [if_pos (.inr (by rw [ZkY ps x h];decide))]
            have Hval:=Lib.hid hval;clear hdr hir hi2 hval Heq hstep hno3;go_wp2_with fail
            go_roundw
            case rel=>exact⟨i+1,by omega,by go_num,Hval.out,hb34.trans (hbq.mono hb34.size)⟩
            case measure=>simp [intOf];omega
       · have hi2:i=5:=by omega
         subst hi2;have hval:=Lib.hid (show ZY x= -1 by rw [heq];unfold Zcd;split<;>rfl);clear hi heq;go_wp2_with fail
         show P (.returned (.tuple #[.int .i64 (-1),.int .i64 0])) _
         rw [←hP];have e:ZaJ l=(-1,0):=by
          unfold ZaJ;rw [if_neg (by intro e;rw [e] at h1;simp at h1),hno.out,if_neg (by decide),Hx.out,hval.out,if_neg (by decide)]
         unfold Zb7;rw [e];exact⟨rfl,hb0.trans (hbr.mono hb0.size)⟩
 · have hno:=Lib.hid (show ZaH TW l= -1 by simp only [ZaH,TW,h2,false_and,if_false]);clear hn;generalize hxl:l.getD 0 0=x at*;have Hx:=Lib.hid hxl;clear hxl;have h2':¬(1:Int)<l.length:=by omega
   have hd:decide ((1:Int)<l.length)=false:=decide_eq_false h2';have hz0:((l.length:Int)==0)=false:=beq_eq_false_iff_ne.2 (by omega);have hbr:=Below.refl w.heap.size w;go_enter Tryz.func25,Tryz.ntmps25
   have cat:=ZC ca hbr;clear ca;go_wp2_with (first|(go_at_call 50;refine(Zjr _).mono ?_;rintro e w3 ⟨adL,cL,rfl,hnL,hb3⟩))
   have hb0:=hbr.trans (hb3.mono hbr.size);have ca3:=ZC cat hb3;go_loopw [8] (fun i wr=>Zi7 x w3 i wr) (fun i _=>5 - (intOf i).toNat)
   case atStart=>exact⟨0,by omega,rfl,(ZkQ x).symm,Below.refl _ _⟩
   case round=>
    obtain⟨i,hi5,rfl,heq,hbr⟩:=hrel;by_cases hi:i<5
    · have hstep:=Lib.hid (ZkR hi x);have Heq:=Lib.hid heq;clear heq;obtain⟨ld0,ld1⟩:=Zlw i hi;obtain⟨ad',ha',_,cl⟩:=(hnL.below hbr).at_ (i:=i) (by simpa using hi);cases ha'
      have hld:[136,161,163,164,165].getD i 0=ldN i:=by
       have h5:i=0∨i=1∨i=2∨i=3∨i=4:=by omega
       rcases h5 with rfl|rfl|rfl|rfl|rfl<;>rfl
      rw [hld] at cl;have hrow:=ZjJ (ldN i);have hg:=Zia (ldN i);have hsz:=ZmE (ldN i);have hln:=Zig (ldN i);clear hld;generalize rB (ldN i)=s at*;generalize Zav (ldN i)=ps at*;generalize ldN i=L at*;have ca2:=ZC ca3 hbr;go_wp2_with (first|(go_at_call 51;refine(hrow _).mono ?_;rintro e w4 ⟨rfl,hb4⟩))
      have hb34:=hbr.trans (hb4.mono hbr.size);have cl4:=ZC cl hb4;have ca4:=ZC ca2 hb4;clear cl ca2 hrow;go_loopw [10,11] (fun a c wr=>Zi8 ps x w4 a c wr) (fun a _ _=>s.size - (intOf a).toNat)
      case atStart=>exact⟨0,0,Run.zero _,rfl,rfl,.inr (fun j hj=>absurd hj (by omega)),Below.refl _ _⟩
      case round=>
       obtain⟨k,j,hrun,rfl,rfl,hno3,hbq⟩:=hrel;have hle:=hrun.le hg.pre;by_cases hk:k<ps.length
       · obtain⟨q,m,hst,hrun',hn1,hn4,hin,_,_,_⟩:=hrun.step hg.pre hk;have hgp:ps.getD k 0=q:=by
          have h1:=hst.snoc hk;rw [ZbR hk] at h1;simpa using h1
         by_cases hq:q=x
         · by_cases h63:x=63
           · clear hgp hno3;subst hq;go_wp2_with (first|(go_at_call 16;refine(ZbH hst (by omega) (by omega) _).mono ?_;rintro e w5 ⟨rfl,hb5⟩;have hB5:=hbq.trans (hb5.mono hbq.size);have cl5:=ZC cl4 hB5;have ca5:=ZC ca4 hB5))
             go_roundw
             case rel=>exact⟨k+1,j+m,hrun',by go_num,by go_num,.inl h63,hB5⟩
             case measure=>simp [intOf];omega
           · have hfn:=ZkX ps x k (hno3.resolve_left h63) hk (by rw [hgp,hq]);have hval:=Lib.hid (show ZY x=L*256+Z8 k by
              rw [Heq.out,hstep.out,if_neg (by intro h;rcases h with h|h;exact h63 h;omega),hfn])
             clear hgp hno3 hfn Heq hstep;have hre:∀v:Int,v=L*256+Z8 k→ZaJ l=(v,1):=by
              intro v hv;have h0:0≤L*256+Z8 k:=by unfold Z8;split<;>omega
              unfold ZaJ;rw [if_neg (by intro e;rw [e] at h1;simp at h1),hno.out,if_neg (by decide),Hx.out,hval.out,if_pos h0,hv]
             have Hre:=Lib.hid hre;clear hre hval;have h63b:(x !=63)=true:=by simpa using h63
             subst hq;by_cases hc:k<63
             · have hsk:L*256+64+k=L*256+Z8 k:=by unfold Z8;rw [if_pos (by omega)];omega
               have Hk:=Lib.hid hsk;clear hsk;go_wp2_with (first|(go_at_call 16;refine(ZbH hst (by omega) (by omega) _).mono ?_;rintro e w5 ⟨rfl,hb5⟩;have hB5:=hbq.trans (hb5.mono hbq.size);have cl5:=ZC cl4 hB5;have ca5:=ZC ca4 hB5))
               show P (.returned (.tuple #[.int .i64 (L*256+64+k),.int .i64 1])) _
               rw [←hP];unfold Zb7;rw [Hre.out _ Hk.out];exact⟨rfl,(hb0.trans (hb34.mono hb0.size)).trans (hB5.mono (Nat.le_trans hb0.size hb34.size))⟩
             · have hsk:L*256+161+k - 63=L*256+Z8 k:=by unfold Z8;rw [if_neg (by omega)];omega
               have Hk:=Lib.hid hsk;clear hsk;go_wp2_with (first|(go_at_call 16;refine(ZbH hst (by omega) (by omega) _).mono ?_;rintro e w5 ⟨rfl,hb5⟩;have hB5:=hbq.trans (hb5.mono hbq.size);have cl5:=ZC cl4 hB5;have ca5:=ZC ca4 hB5))
               show P (.returned (.tuple #[.int .i64 (L*256+161+k - 63),.int .i64 1])) _
               rw [←hP];unfold Zb7;rw [Hre.out _ Hk.out];exact⟨rfl,(hb0.trans (hb34.mono hb0.size)).trans (hB5.mono (Nat.le_trans hb0.size hb34.size))⟩
         · have hqb:(q==x)=false:=by simpa using hq
           have hno4:x=63∨∀j',j'<k+1→ps.getD j' 0≠x:=by
            rcases hno3 with h|h
            · exact .inl h
            · refine .inr fun j' hj'=> ?_;by_cases e:j'=k
              · rw [e,hgp];exact hq
              · exact h j' (by omega)
           clear hgp hno3;go_wp2_with (first|(go_at_call 16;refine(ZbH hst (by omega) (by omega) _).mono ?_;rintro e w5 ⟨rfl,hb5⟩;have hB5:=hbq.trans (hb5.mono hbq.size);have cl5:=ZC cl4 hB5;have ca5:=ZC ca4 hB5))
           go_roundw
           case rel=>exact⟨k+1,j+m,hrun',by go_num,by go_num,hno4,hB5⟩
           case measure=>simp [intOf];omega
       · have hk2:k=ps.length:=by omega
         subst hk2;obtain⟨hi2,hdr,hir⟩:=hrun.end_ hg.pre;have hge:¬j<s.size:=by simp at hir;omega
         have hval:ZY x=Zcd (RL.drop (i+1)) x:=by
          rw [Heq.out,hstep.out];rcases hno3 with h|h
          · rw [if_pos (.inl h)]
          · rw [if_pos (.inr (by rw [ZkY ps x h];decide))]
         have Hval:=Lib.hid hval;clear hdr hir hi2 hval Heq hstep hno3;go_wp2_with fail
         go_roundw
         case rel=>exact⟨i+1,by omega,by go_num,Hval.out,hb34.trans (hbq.mono hb34.size)⟩
         case measure=>simp [intOf];omega
    · have hi2:i=5:=by omega
      subst hi2;have hval:=Lib.hid (show ZY x= -1 by rw [heq];unfold Zcd;split<;>rfl);clear hi heq;go_wp2_with fail
      show P (.returned (.tuple #[.int .i64 (-1),.int .i64 0])) _
      rw [←hP];have e:ZaJ l=(-1,0):=by
       unfold ZaJ;rw [if_neg (by intro e;rw [e] at h1;simp at h1),hno.out,if_neg (by decide),Hx.out,hval.out,if_neg (by decide)]
      unfold Zb7;rw [e];exact⟨rfl,hb0.trans (hbr.mono hb0.size)⟩
theorem Zo1 (A:Option Addr)(c:Nat)(l:List Int)(w:World)(hn:ZA w w.heap.size .i32 A l)(hl:l.length≤2000000):
 Calls Tryz.prog 25 #[.slice A l.length c] w fun e w'=>e= .returned (.tuple #[.int .i64 (ZaJ l).1,.int .i64 (ZaJ l).2])∧Below w.heap.size w w':=by
 cases l with
 |nil=>exact Zn3 A c w
 |cons x r=>
  obtain⟨ad,rfl,_,_⟩:=hn.at_ (i:=0) (by simp);exact Zn4 ad c (x::r) w hn (by simp) hl
end Go.Proofs.YtlfinljfghhpdaaGreatDoor
