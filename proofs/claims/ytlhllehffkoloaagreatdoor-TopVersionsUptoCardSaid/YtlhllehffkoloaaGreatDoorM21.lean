/- Lemmas for TopVersions; conditions: as each says. -/
import Derived.Maps.OwnOps
import Derived.Maps.OwnSet
import Derived.Maps.Views
import Derived.DeepKeys4
import Derived.Test.YtlhllehffkoloaaGreatDoorM20
set_option linter.unusedVariables false
set_option linter.unusedSimpArgs false
set_option maxRecDepth 100000
set_option maxHeartbeats 4000000
namespace Go.Proofs.YtlhllehffkoloaaGreatDoor
open Go Go.RowKit Go.Maps
def twoV (x y:UInt8):Value:= .agg #[.int .u8 x.toNat,.int .u8 y.toNat]
def ZfW:Value→Option (DataW Unit×List MemPlace)
 | .agg ⟨[.string s]⟩=>some (.lit (.string s.data.toList),[])
 |_=>none
theorem ZvN {v:Value} {z:DataW Unit×List MemPlace} (h:ZfW v=some z):∃s:ByteArray,v= .agg #[.string s]∧z=(.lit (.string s.data.toList),[]):=by
 unfold ZfW at h;split at h
 · injection h with h;exact⟨_,rfl,h.symm⟩
 · cases h
theorem law2u:Keyed Tryz.prog 262:=Keyed.of_law (deep_law_laid (m:=3) (by kernel_rfl) (by decide) (of_decide_eq_true (by kernel_rfl)) (by kernel_rfl) (by kernel_rfl))
theorem u8_wf (x:UInt8):(Lit.int .u8 (x.toNat:Int)).wf=true:=by
 have:=x.toNat_lt;simp [Lit.wf,IntKind.min,IntKind.max,IntKind.bits,IntKind.signed];omega
theorem Zv5 (z:UInt8):(Lit.int .u8 (z.toNat:Int)).keyBytes=[z]:=by
 have hz:=z.toNat_lt;have e1:((z.toNat:Int) % 2^IntKind.u8.bits).toNat=z.toNat:=by
  show((z.toNat:Int) % 2^8).toNat=z.toNat
  omega
 show bytesBE 1 ((z.toNat:Int) % 2^IntKind.u8.bits).toNat=[z]
 rw [e1];simp [bytesBE,bytesLE]
theorem ZmF (x y:UInt8):keyOf Tryz.prog 262 (twoV x y)=some (.string [x,y]):=by
 have h1:Tryz.prog.keyType 262=true:=by kernel_rfl
 have h3:Tryz.prog.cellsOf 262=2:=by kernel_rfl
 have h4:Tryz.prog.cellsOf 5=1:=by kernel_rfl
 have h5:1≤Tryz.prog.types.size:=of_decide_eq_true (by kernel_rfl);have h2:(twoV x y).formed Tryz.prog 262=true:=by
  simp [twoV,Value.formed,Tryz.underlying262,h3]
 have hk:∀m,Tryz.prog.keyLits (m+1+1) 262 [.int .u8 x.toNat,.int .u8 y.toNat]=some [.int .u8 x.toNat,.int .u8 y.toNat]:=by
  intro m;have hi:∀z:UInt8,Tryz.prog.keyLits (m+1) 5 [.int .u8 z.toNat]=some [.int .u8 z.toNat]:=by
   intro z;rw [Program.keyLits.eq_def];simp only [Tryz.underlying5,u8_wf,and_self,if_true]
  rw [Program.keyLits.eq_def];simp only [Tryz.underlying262,h3,h4,List.length_cons,List.length_nil,if_true];simp only [List.range_succ,List.range_zero,List.nil_append,List.cons_append,List.mapM_cons,List.mapM_nil];simp [hi]
 obtain⟨m,hm⟩:∃m,Tryz.prog.types.size=m+1:=⟨Tryz.prog.types.size - 1,by omega⟩
 unfold keyOf;rw [Tryz.underlying262];simp only [h1,Bool.true_and];rw [if_pos h2,hm];show(Tryz.prog.keyLits (m+1+1) 262 [.int .u8 x.toNat,.int .u8 y.toNat]).map _=_
 rw [hk m,Option.map_some];simp only [keyBytes,List.flatMap_cons,List.flatMap_nil,Zv5,List.append_nil,List.cons_append,List.nil_append]
def MpT (w:World)(b n:Nat)(M:UInt8→UInt8→Option (List UInt8)):Prop:=∃D:DataW Unit,w.ownsMap Tryz.prog 262 ZfW b n D∧(∀x y,(M x y).isSome=Maps.has D (.string [x,y]))∧∀x y t,M x y=some t→∀z,D.atKey (.string [x,y]) z= .lit (.string t)
theorem MpT.made (w:World):MpT (w.alloc (.map #[] 0)) w.heap.size 0 (fun _ _=>none):=⟨.map [],World.ownsMap_made _ _ _ _,fun _ _=>rfl,fun _ _ _ h=>by cases h⟩
theorem MpT.kept {w w':World} {b n:Nat} {M:UInt8→UInt8→Option (List UInt8)} {row:Option Nat} (h:MpT w b n M)(hg:w.grownBy w' row)(hne:some b≠row):MpT w' b n M:=by
 obtain⟨D,h1,h2⟩:=h;exact⟨D,h1.kept hg hne,h2⟩
theorem MpT.below {w w':World} {b n:Nat} {M:UInt8→UInt8→Option (List UInt8)} (h:MpT w b n M)(hb:Below w.heap.size w w'):MpT w' b n M:=
 h.kept (row:=none) ⟨hb.os,hb.tape,hb.output,hb.size,fun k hk _=>hb.block k hk⟩ (by simp)
theorem zeroT (w:World):(zeroValue 264).run Tryz.prog w= .ok (.agg #[.string ⟨#[]⟩]) w:=by kernel_rfl
section
variable {ops:Array Oper} {rest:List Oper} {o:Oper} {a:Act} {Q:Exit→Act→World→Prop} {w:World} {b n:Nat} {M:UInt8→UInt8→Option (List UInt8)}
theorem ZmW (hg:o.guard=none)(m x:Operand)(hop:o.op=Op.lookup 261 m x true)(h:MpT w b n M)(hm:a.eval m= .map (some b))(p q:UInt8)(hx:a.eval x= .agg #[.int .u8 p.toNat,.int .u8 q.toNat])
 (hK:∀t:List UInt8,(∀k,M p q=some k→t=k)→wpList Tryz.prog ops Q rest (a.put o.dst (.tuple #[.agg #[.string (B t)],.bool (M p q).isSome])) w):
 wpList Tryz.prog ops Q (o::rest) a w:=by
 obtain⟨D,h1,h2,h3⟩:=h;refine wpList_lookup_own_ok w hg m x 261 hop 262 264 law2u Tryz.underlying261 ZfW (zeroT _) (.lit (.string [])) [] rfl b n D hm h1 _ (.string [p,q]) hx (ZmF p q) ?_;intro v ps hv;rw [←h2];obtain⟨s,rfl,hz⟩:=ZvN hv;have:=hK s.data.toList (fun k hk=>by
  have e:=h3 p q k hk (.lit (.string []));rw [Prod.mk.injEq] at hz;rw [hz.1] at e;simpa using e)
 rw [←B_of] at this;exact this
theorem ZmX (hg:o.guard=none)(m x v:Operand)(hop:o.op=Op.mapUpdate 261 m x v)(h:MpT w b n M)(hm:a.eval m= .map (some b))(p q:UInt8)(hx:a.eval x= .agg #[.int .u8 p.toNat,.int .u8 q.toNat])(t:List UInt8)(hv:a.eval v= .agg #[.string (B t)])(hn:n≤10000000)
 (hK:∀w',MpT w' b (n+1) (fun x y=>if x=p∧y=q then some t else M x y)→w.grownBy w' (some b)→wpList Tryz.prog ops Q rest (a.put o.dst undef) w'):
 wpList Tryz.prog ops Q (o::rest) a w:=by
 obtain⟨D,h1,h2,h3⟩:=h;have hr:ZfW (.agg #[.string (B t)])=some (.lit (.string t),[]):=by
  show some ((.lit (.string (B t).data.toList):DataW Unit),([]:List MemPlace))=_
  rw [Za5]
 refine wpList_mapUpdate_own _ hg m x v 261 hop 262 264 law2u Tryz.underlying261 _ b n D hm h1 (by unfold maxLen;omega) _ _ (.string [p,q]) hx hv (ZmF p q) _ [] hr ?_;intro w' h4 h5;have hD:IsMap D:=by obtain⟨es,cl,_,_,_,rfl⟩:=h1;exact⟨_,rfl⟩
 refine hK w' ⟨_,h4,fun x y=> ?_,fun x y k hk z=> ?_⟩ h5
 · show(if x=p∧y=q then some t else M x y).isSome=_
   by_cases e:x=p∧y=q
   · obtain⟨rfl,rfl⟩:=e;rw [if_pos ⟨rfl,rfl⟩,has_put_same hD (show WideAt.IsKeyLit (.string [x,y]) from trivial)];rfl
   · rw [if_neg e,h2,has_put_other (by simpa using e)]
 · have hk:(if x=p∧y=q then some t else M x y)=some k:=hk;by_cases e:x=p∧y=q
   · obtain⟨rfl,rfl⟩:=e;rw [if_pos ⟨rfl,rfl⟩] at hk;injection hk with hk;subst hk;exact atKey_put_same hD (show WideAt.IsKeyLit (.string [x,y]) from trivial) _ _
   · rw [if_neg e] at hk;rw [atKey_put_other (by simpa using e)];exact h3 x y k hk z
end
end Go.Proofs.YtlhllehffkoloaaGreatDoor
namespace Go.Proofs.YtlhllehffkoloaaGreatDoor
open Go Go.RowKit
theorem Ze4 {k:IntKind} {a b:Int} {x y:Bool} (h:a=b)(h2:x=y):Ending.returned (.tuple #[.int k a,.bool x])= .returned (.tuple #[.int k b,.bool y]):=by rw [h,h2]
def v0 (z:Int):Int:=if z= -2 then 0 else z
def g0 (z:Int):Bool:=decide (z≠ -2)
theorem ZjN:v0 (-2)=0:=rfl
theorem Zix:g0 (-2)=false:=rfl
theorem ZjO {z:Int} (h:z≠ -2):v0 z=z:=if_neg h
theorem Ziy {z:Int} (h:z≠ -2):g0 z=true:=by simp [g0,h]
theorem ZpD (c:Int)(h0:0≤c∧c≤1000)(w:World):
 Calls Tryz.prog 315 #[.int .i64 c] w fun e w'=>e= .returned (.tuple #[.int .i64 (v0 (ZbR c)),.bool (g0 (ZbR c))])∧w=w':=by
 by_cases h1:c=1
 · subst h1;go_enter Tryz.func315,Tryz.ntmps315
   go_wp2_with fail
   go_ret2
   exact⟨rfl,rfl⟩
 have hb:(c==1)=false:=by simpa using h1
 have a0:=h0.1;have a1:=h0.2;clear h0;obtain⟨z,hz⟩:∃z,ZbR c=z:=⟨_,rfl⟩
 rw [hz];have HZ:=Lib.hid hz;clear hz;go_enter Tryz.func315,Tryz.ntmps315
 go_wp2
 all_goals go_ret2
 all_goals refine⟨Ze4 ?_ ?_,rfl⟩
 all_goals (have hz:=HZ.out;clear HZ;unfold ZbR at hz;(repeat' split at hz)<;>subst hz<;>first|rfl|(exfalso;omega)|(unfold v0;split<;>omega)|(unfold g0;simp;omega))
theorem ZpE (c:Int)(h0:0≤c∧c≤1000)(w:World):
 Calls Tryz.prog 316 #[.int .i64 c] w fun e w'=>e= .returned (.tuple #[.int .i64 (v0 (ZbS c)),.bool (g0 (ZbS c))])∧w=w':=by
 by_cases h1:c=2
 · subst h1;go_enter Tryz.func316,Tryz.ntmps316
   go_wp2_with fail
   go_ret2
   exact⟨rfl,rfl⟩
 have hb:(c==2)=false:=by simpa using h1
 have a0:=h0.1;have a1:=h0.2;clear h0;obtain⟨z,hz⟩:∃z,ZbS c=z:=⟨_,rfl⟩
 rw [hz];have HZ:=Lib.hid hz;clear hz;go_enter Tryz.func316,Tryz.ntmps316
 go_wp2
 all_goals go_ret2
 all_goals refine⟨Ze4 ?_ ?_,rfl⟩
 all_goals (have hz:=HZ.out;clear HZ;unfold ZbS at hz;(repeat' split at hz)<;>subst hz<;>first|rfl|(exfalso;omega)|(unfold v0;split<;>omega)|(unfold g0;simp;omega))
theorem ZpC (c:Int)(h0:0≤c∧c≤1000)(w:World):
 Calls Tryz.prog 317 #[.int .i64 c] w fun e w'=>e= .returned (.tuple #[.int .i64 (v0 (Zby c)),.bool (g0 (Zby c))])∧w=w':=by
 have a0:=h0.1;have a1:=h0.2;clear h0;obtain⟨z,hz⟩:∃z,Zby c=z:=⟨_,rfl⟩
 rw [hz];have HZ:=Lib.hid hz;clear hz;go_enter Tryz.func317,Tryz.ntmps317
 go_wp2
 all_goals go_ret2
 all_goals refine⟨Ze4 ?_ ?_,rfl⟩
 all_goals (have hz:=HZ.out;clear HZ;unfold Zby at hz;(repeat' split at hz)<;>subst hz<;>first|rfl|(exfalso;omega)|(unfold v0;split<;>omega)|(unfold g0;simp;omega))
theorem ZpG (i m f:Int)(hi:0≤i∧i≤18)(hm:0≤m∧m≤20)(hf:0≤f∧f≤27)(w:World):
 Calls Tryz.prog 318 #[.int .i64 i,.int .i64 m,.int .i64 f] w fun e w'=>e= .returned (.tuple #[.int .i32 (sylZ i m f),.bool true])∧w=w':=by
 obtain⟨i0,i1⟩:=hi;obtain⟨m0,m1⟩:=hm;obtain⟨f0,f1⟩:=hf;have d1:decide (i<0)=false:=by simp;omega
 have d2:decide ((19:Int)≤i)=false:=by simp;omega
 have d3:decide (m<0)=false:=by simp;omega
 have d4:decide ((21:Int)≤m)=false:=by simp;omega
 have d5:decide (f<0)=false:=by simp;omega
 have d6:decide ((28:Int)≤f)=false:=by simp;omega
 go_enter Tryz.func318,Tryz.ntmps318
 go_wp2_with fail
 go_ret2
 exact⟨rfl,rfl⟩
theorem idx_hi {k:Nat} (hk:k<256):Lib.indexByte Zc1 (UInt8.ofNat k)<30:=by
 have h:(List.range 256).all (fun k=>decide (Lib.indexByte Zc1 (UInt8.ofNat k)<30))=true:=by decide+kernel
 simpa using List.all_eq_true.1 h k (List.mem_range.2 hk)
theorem Zkj (k:Nat)(hk:k<256)(w:World):
 Calls Tryz.prog 319 #[.int .u8 (k:Int)] w fun e w'=>e= .returned (.tuple #[.int .i32 (Za0 k),.bool (decide (Za0 k≠0))])∧Below w.heap.size w w':=by
 have hb0:=Lib.indexByte_ge Zc1 (UInt8.ofNat k);have hb1':=idx_hi hk;have hu:(UInt8.ofNat k).toNat=k:=by simp;omega
 have hix:∀w,Calls Tryz.prog 253 #[.string ⟨#[65,66,100,67,102,103,68,69,70,106,107,108,109,110,111,112,71,72,73,115,74,75,76,77,78,79,80,81,82,83]⟩,.int .u8 (k:Int)] w fun e w'=>e= .returned (.int .i64 (Lib.indexByte Zc1 (UInt8.ofNat k)))∧Below w.heap.size w w':=by
  intro w;refine(Tryz.strings_IndexByte _ _ w).mono ?_;rintro e w' ⟨rfl,rfl⟩;refine⟨ZaA ?_,Below.refl _ _⟩;have e1:((k:Int)).toNat.toUInt8=UInt8.ofNat k:=by simp [Nat.toUInt8]
  rw [e1];rfl
 have hc:Za0 k=if Lib.indexByte Zc1 (UInt8.ofNat k)<0 then 0 else 12593+Lib.indexByte Zc1 (UInt8.ofNat k):=rfl
 generalize Lib.indexByte Zc1 (UInt8.ofNat k)=j at*;by_cases h0:j<0
 · have e:Za0 k=0:=by rw [hc,if_pos h0]
   have E:=Lib.hid e;clear hc e;go_enter Tryz.func319,Tryz.ntmps319
   go_wp2_with (go_at_call 253;refine(hix _).mono ?_;rintro e w1 ⟨rfl,hb1⟩)
   go_ret2
   rw [E.out];exact⟨rfl,hb1⟩
 · have e:Za0 k=12593+j:=by rw [hc,if_neg h0]
   have E:=Lib.hid e;have j0:0≤j:=by omega
   have j1:j≤30:=by omega
   clear hc e;go_enter Tryz.func319,Tryz.ntmps319
   go_wp2_with (go_at_call 253;refine(hix _).mono ?_;rintro e w1 ⟨rfl,hb1⟩)
   go_ret2
   rw [E.out];exact⟨Ze4 rfl (by simp;omega),hb1⟩
theorem ZiI {x:Int} (h0:0≤x)(h1:x≤65535):bits .and .i64 x 31=x % 32:=
 bits_mask .i64 63 (by decide) (fun n h0 h1=>by simp [IntKind.wrap,IntKind.bits,IntKind.signed];omega) 5 (by decide) x h0 (by omega)
theorem ZpF (a b:UInt8)(w:World):
 Calls Tryz.prog 273 #[.int .u8 a.toNat,.int .u8 b.toNat] w fun e w'=>e= .returned (.tuple #[.int .i32 (ZaE ((a.toNat*256+b.toNat:Nat):Int)),.bool (decide (ZaE ((a.toNat*256+b.toNat:Nat):Int)≠0))])∧Below w.heap.size w w':=by
 have ha:=a.toNat_lt;have hb:=b.toNat_lt;generalize a.toNat=x at*;generalize b.toNat=y at*;have hor:bits .or .i64 ((x:Int)*256) y=((x*256+y:Nat):Int):=by
  rw [ZeS (by omega) (by omega) (by omega) (by omega)];omega
 have hN:0≤((x*256+y:Nat):Int)∧((x*256+y:Nat):Int)≤65535:=by omega
 generalize ((x*256+y:Nat):Int)=N at*;obtain⟨N0,N1⟩:=hN;have h1:bits .and .i64 (N / 1024) 31=N / 1024 % 32:=ZiI (by omega) (by omega);have h2:bits .and .i64 (N / 32) 31=N / 32 % 32:=ZiI (by omega) (by omega);have h3:bits .and .i64 N 31=N % 32:=ZiI (by omega) (by omega);have r1:0≤N / 1024 % 32∧N / 1024 % 32≤1000:=by omega
 have r2:0≤N / 32 % 32∧N / 32 % 32≤1000:=by omega
 have r3:0≤N % 32∧N % 32≤1000:=by omega
 have ci:=fun w=>ZpD _ r1 w;have cm:=fun w=>ZpE _ r2 w;have cf:=fun w=>ZpC _ r3 w;have bi:=Zmy (N / 1024 % 32);have bm:=ZmU (N / 32 % 32);have bf:=Zl8 (N % 32);have hJ:ZaE N=if N<32768∨ZbR (N / 1024 % 32)= -2∨ZbS (N / 32 % 32)= -2∨Zby (N % 32)= -2 then 0 else ZfS (ZbR (N / 1024 % 32)) (ZbS (N / 32 % 32)) (Zby (N % 32)):=rfl
 have hx:(x:Int)≤255:=by omega
 have hy:(y:Int)≤255:=by omega
 clear r1 r2 r3 ha hb;generalize N / 1024 % 32=c1 at*;generalize N / 32 % 32=c2 at*;generalize N % 32=c3 at*;generalize ZbR c1=i at*;generalize ZbS c2=m at*;generalize Zby c3=f at*;generalize ZaE N=J at*;by_cases hA:N<32768
 · have E:J=0:=by rw [hJ,if_pos (.inl hA)]
   subst E;have e0:(N / 32768==0)=true:=by simp;omega
   clear hJ;go_enter Tryz.func273,Tryz.ntmps273
   go_wp2_with (first|(go_at_call 315;refine(ci _).mono ?_;rintro e w' ⟨rfl,rfl⟩)|(go_at_call 316;refine(cm _).mono ?_;rintro e w' ⟨rfl,rfl⟩)|(go_at_call 317;refine(cf _).mono ?_;rintro e w' ⟨rfl,rfl⟩))
   go_ret2
   exact⟨rfl,Below.refl _ _⟩
 have eN:(N / 32768==0)=false:=by rw [beq_eq_false_iff_ne];omega
 by_cases hB:i= -2
 · have E:J=0:=by rw [hJ,if_pos (.inr (.inl hB))]
   subst E hB;clear hJ;rw [ZjN,Zix] at ci;go_enter Tryz.func273,Tryz.ntmps273
   go_wp2_with (first|(go_at_call 315;refine(ci _).mono ?_;rintro e w' ⟨rfl,rfl⟩)|(go_at_call 316;refine(cm _).mono ?_;rintro e w' ⟨rfl,rfl⟩)|(go_at_call 317;refine(cf _).mono ?_;rintro e w' ⟨rfl,rfl⟩))
   go_ret2
   exact⟨rfl,Below.refl _ _⟩
 rw [ZjO hB,Ziy hB] at ci;by_cases hC:m= -2
 · have E:J=0:=by rw [hJ,if_pos (.inr (.inr (.inl hC)))]
   subst E hC;clear hJ;rw [ZjN,Zix] at cm;go_enter Tryz.func273,Tryz.ntmps273
   go_wp2_with (first|(go_at_call 315;refine(ci _).mono ?_;rintro e w' ⟨rfl,rfl⟩)|(go_at_call 316;refine(cm _).mono ?_;rintro e w' ⟨rfl,rfl⟩)|(go_at_call 317;refine(cf _).mono ?_;rintro e w' ⟨rfl,rfl⟩))
   go_ret2
   exact⟨rfl,Below.refl _ _⟩
 rw [ZjO hC,Ziy hC] at cm;by_cases hD:f= -2
 · have E:J=0:=by rw [hJ,if_pos (.inr (.inr (.inr hD)))]
   subst E hD;clear hJ;rw [ZjN,Zix] at cf;go_enter Tryz.func273,Tryz.ntmps273
   go_wp2_with (first|(go_at_call 315;refine(ci _).mono ?_;rintro e w' ⟨rfl,rfl⟩)|(go_at_call 316;refine(cm _).mono ?_;rintro e w' ⟨rfl,rfl⟩)|(go_at_call 317;refine(cf _).mono ?_;rintro e w' ⟨rfl,rfl⟩))
   go_ret2
   exact⟨rfl,Below.refl _ _⟩
 rw [ZjO hD,Ziy hD] at cf;have f0:0≤f∧f≤27:=by omega
 have hJ2:J=ZfS i m f:=by rw [hJ,if_neg (by omega)]
 clear hJ bf;unfold ZfS at hJ2;by_cases hi:i= -1
 · subst hi;by_cases hm:m= -1
   · subst hm;by_cases hf:f=0
     · subst hf;have E:J=0:=by rw [hJ2];rfl
       subst E;clear hJ2;have e1:decide ((-1:Int)= -1)=true:=rfl;go_enter Tryz.func273,Tryz.ntmps273
       go_wp2_with (first|(go_at_call 315;refine(ci _).mono ?_;rintro e w' ⟨rfl,rfl⟩)|(go_at_call 316;refine(cm _).mono ?_;rintro e w' ⟨rfl,rfl⟩)|(go_at_call 317;refine(cf _).mono ?_;rintro e w' ⟨rfl,rfl⟩))
       go_ret2
       exact⟨rfl,Below.refl _ _⟩
     · have E:J=Za0 (97+f.toNat):=by rw [hJ2,if_neg (by omega),if_neg (by omega),if_neg (by omega),if_pos ⟨rfl,rfl,hf⟩]
       have ef:(f==0)=false:=by simpa using hf
       have ef2:(f !=0)=true:=by simpa using hf
       obtain⟨k,rfl⟩:∃k:Nat,f=k:=⟨f.toNat,by omega⟩
       have hk:((97+k:Nat):Int)=97+(k:Int):=by omega
       have hco:=fun w=>Zkj (97+k) (by omega) w;rw [Int.toNat_natCast] at E;rw [←E,hk] at hco;clear hJ2 E hk;have f1:=f0.2;clear f0;go_enter Tryz.func273,Tryz.ntmps273
       go_wp2_with (first|(go_at_call 315;refine(ci _).mono ?_;rintro e w' ⟨rfl,rfl⟩)|(go_at_call 316;refine(cm _).mono ?_;rintro e w' ⟨rfl,rfl⟩)|(go_at_call 317;refine(cf _).mono ?_;rintro e w' ⟨rfl,rfl⟩)|(go_at_call 319;refine(hco _).mono ?_;rintro e w1 ⟨rfl,hb1⟩))
       go_ret2
       exact⟨Ze4 rfl (by simp),hb1⟩
   · have m0:0≤m:=by omega
     have m1:=bm.2;have em:(m== -1)=false:=by simpa using hm
     have em2:(m != -1)=true:=by simpa using hm
     by_cases hf:f=0
     · subst hf;have E:J=12623+m:=by rw [hJ2,if_neg (by omega),if_pos ⟨rfl,hm,rfl⟩]
       have E0:decide (J≠0)=true:=by simp;omega
       rw [E0];subst E;clear hJ2 bm f0 hm E0;have e1:decide ((-1:Int)= -1)=true:=rfl;go_enter Tryz.func273,Tryz.ntmps273
       go_wp2_with (first|(go_at_call 315;refine(ci _).mono ?_;rintro e w' ⟨rfl,rfl⟩)|(go_at_call 316;refine(cm _).mono ?_;rintro e w' ⟨rfl,rfl⟩)|(go_at_call 317;refine(cf _).mono ?_;rintro e w' ⟨rfl,rfl⟩))
       go_ret2
       exact⟨rfl,Below.refl _ _⟩
     · have E:J=0:=by rw [hJ2,if_neg (by omega),if_neg (by omega),if_neg (by omega),if_neg (by omega)]
       subst E;have ef:(f==0)=false:=by simpa using hf
       have ef2:(f !=0)=true:=by simpa using hf
       clear hJ2 bm f0 hm;have e1:decide ((-1:Int)= -1)=true:=rfl;go_enter Tryz.func273,Tryz.ntmps273
       go_wp2_with (first|(go_at_call 315;refine(ci _).mono ?_;rintro e w' ⟨rfl,rfl⟩)|(go_at_call 316;refine(cm _).mono ?_;rintro e w' ⟨rfl,rfl⟩)|(go_at_call 317;refine(cf _).mono ?_;rintro e w' ⟨rfl,rfl⟩))
       go_ret2
       exact⟨rfl,Below.refl _ _⟩
 · have i0:0≤i:=by omega
   have i1:=bi.2;have ei:(i== -1)=false:=by simpa using hi
   have ei2:(i != -1)=true:=by simpa using hi
   by_cases hm:m= -1
   · subst hm;by_cases hf:f=0
     · subst hf;have E:J=Za0 (65+i.toNat):=by rw [hJ2,if_neg (by omega),if_neg (by omega),if_pos ⟨hi,rfl,rfl⟩]
       obtain⟨k,rfl⟩:∃k:Nat,i=k:=⟨i.toNat,by omega⟩
       have hk:((65+k:Nat):Int)=65+(k:Int):=by omega
       have hco:=fun w=>Zkj (65+k) (by omega) w;rw [Int.toNat_natCast] at E;rw [←E,hk] at hco;clear hJ2 E hk hi bi;clear f0;go_enter Tryz.func273,Tryz.ntmps273
       go_wp2_with (first|(go_at_call 315;refine(ci _).mono ?_;rintro e w' ⟨rfl,rfl⟩)|(go_at_call 316;refine(cm _).mono ?_;rintro e w' ⟨rfl,rfl⟩)|(go_at_call 317;refine(cf _).mono ?_;rintro e w' ⟨rfl,rfl⟩)|(go_at_call 319;refine(hco _).mono ?_;rintro e w1 ⟨rfl,hb1⟩))
       go_ret2
       exact⟨Ze4 rfl (by simp),hb1⟩
     · have E:J=0:=by rw [hJ2,if_neg (by omega),if_neg (by omega),if_neg (by omega),if_neg (by omega)]
       subst E;have ef:(f==0)=false:=by simpa using hf
       have ef2:(f !=0)=true:=by simpa using hf
       clear hJ2 bi f0 hi;have e1:decide ((-1:Int)= -1)=true:=rfl;go_enter Tryz.func273,Tryz.ntmps273
       go_wp2_with (first|(go_at_call 315;refine(ci _).mono ?_;rintro e w' ⟨rfl,rfl⟩)|(go_at_call 316;refine(cm _).mono ?_;rintro e w' ⟨rfl,rfl⟩)|(go_at_call 317;refine(cf _).mono ?_;rintro e w' ⟨rfl,rfl⟩))
       go_ret2
       exact⟨rfl,Below.refl _ _⟩
   · have E:J=sylZ i m f:=by rw [hJ2,if_pos ⟨hi,hm⟩]
     have m0:0≤m:=by omega
     have m1:=bm.2;have em:(m== -1)=false:=by simpa using hm
     have em2:(m != -1)=true:=by simpa using hm
     have hsy:=fun w=>ZpG i m f (by omega) (by omega) f0 w;have E0:decide (J≠0)=true:=by rw [E];unfold sylZ;simp;omega
     rw [E0];rw [←E] at hsy;clear hJ2 E bi bm f0 hm hi E0;have e1:decide ((-1:Int)= -1)=true:=rfl;go_enter Tryz.func273,Tryz.ntmps273
     go_wp2_with (first|(go_at_call 315;refine(ci _).mono ?_;rintro e w' ⟨rfl,rfl⟩)|(go_at_call 316;refine(cm _).mono ?_;rintro e w' ⟨rfl,rfl⟩)|(go_at_call 317;refine(cf _).mono ?_;rintro e w' ⟨rfl,rfl⟩)|(go_at_call 318;refine(hsy _).mono ?_;rintro e w1 ⟨rfl,rfl⟩))
     go_ret2
     exact⟨rfl,Below.refl _ _⟩
theorem Zmx {x y:Int} (hy₀:0≤y)(hy:y<256)(hx₀:0≤x)(hx:x<8388608):bits .or .i32 (x*256) y=x*256+y:=
 bits_join .i32 31 (by decide) (fun n h0 h1=>by simp [IntKind.wrap,IntKind.bits,IntKind.signed];omega) 8 (x*256) y (by omega) (by omega) (by omega) hy₀ hy (by omega)
theorem ZkS (s:ByteArray)(i:Nat)(hi:i+1<s.size)(hs:s.size≤140737488355328)(big:Bool)(w:World):
 Calls Tryz.prog 245 #[.string s,.int .i64 i,.bool big] w fun e w'=>e= .returned (.int .i32 (Zs big s[i] s[i+1]))∧Below w.heap.size w w':=by
 have h0:=(s[i]).toNat_lt;have h1:=(s[i+1]).toNat_lt;have hi0:i<s.size:=by omega
 have hA:0≤(i:Int)+1∧(i:Int)+1<(s.size:Int):=by omega
 have hA1:0≤(i:Int)+1:=by omega
 have hA2:(i:Int)+1<(s.size:Int):=by omega
 have hA3:((i:Int)+1).toNat=i+1:=by omega
 go_enter Tryz.func245,Tryz.ntmps245
 cases big
 · go_wp2_with fail
   go_region
   go_wp2_with fail
   go_ret
   exact⟨ZaA (by rw [Zmx (by omega) (by omega) (by omega) (by omega)];simp [Zs]),(Below.refl _ _).drew⟩
 · go_wp2_with fail
   go_region
   go_wp2_with fail
   go_ret
   exact⟨ZaA (by rw [Zmx (by omega) (by omega) (by omega) (by omega)];simp [Zs]),(Below.refl _ _).drew⟩
theorem ZlO (s:ByteArray)(i:Nat)(hi:i+1<s.size):s.data.toList.drop i=s[i]::s[i+1]::s.data.toList.drop (i+2):=by
 have h0:i<s.data.toList.length:=by simpa using (by omega:i<s.size)
 have h1:i+1<s.data.toList.length:=by simpa using hi
 rw [List.drop_eq_getElem_cons h0,List.drop_eq_getElem_cons h1];rfl
theorem Zn8 (s:ByteArray)(i:Nat):(s.data.toList.drop i).length=s.size - i:=by simp
theorem Zwq {big:Bool} {a b:UInt8} {r:List UInt8} (h:Zs big a b<55296∨57344≤Zs big a b):Zt big (a::b::r)=(Zs big a b,2):=by
 simp only [Zt,if_pos h]
theorem Zwr {big:Bool} {a b:UInt8} {r:List UInt8} (h:¬(Zs big a b<55296∨57344≤Zs big a b))(h2:56320≤Zs big a b):Zt big (a::b::r)=(0,0):=by
 simp only [Zt,if_neg h,if_pos h2]
theorem Zwu {big:Bool} {a b:UInt8} {r:List UInt8} (h:¬(Zs big a b<55296∨57344≤Zs big a b))(h2:¬56320≤Zs big a b)(hr:r.length<2):Zt big (a::b::r)=(0,0):=by
 match r,hr with
 |[],_=>simp only [Zt,if_neg h,if_neg h2]
 |[_],_=>simp only [Zt,if_neg h,if_neg h2]
 |_::_::_,hr=>simp at hr;omega
theorem Zws {big:Bool} {a b c d:UInt8} {r:List UInt8} (h:¬(Zs big a b<55296∨57344≤Zs big a b))(h2:¬56320≤Zs big a b)(h3:Zs big c d<56320∨57344≤Zs big c d):Zt big (a::b::c::d::r)=(0,0):=by
 simp only [Zt,if_neg h,if_neg h2,if_pos h3]
theorem Zwp {big:Bool} {a b c d:UInt8} {r:List UInt8} (h:¬(Zs big a b<55296∨57344≤Zs big a b))(h2:¬56320≤Zs big a b)(h3:¬(Zs big c d<56320∨57344≤Zs big c d)):
 Zt big (a::b::c::d::r)=(65536+(Zs big a b - 55296)*1024+(Zs big c d - 56320),4):=by
 simp only [Zt,if_neg h,if_neg h2,if_neg h3]
theorem ZkI (s:ByteArray)(i:Nat)(hi:i≤s.size)(hs:s.size≤140737488355328)(big:Bool)(w:World):
 Calls Tryz.prog 177 #[.string s,.int .i64 i,.bool big] w fun e w'=>e= .returned (.tuple #[.int .i32 (Zt big (s.data.toList.drop i)).1,.int .i64 (Zt big (s.data.toList.drop i)).2])∧Below w.heap.size w w':=by
 have hl:=Zn8 s i;by_cases h2:i+1<s.size
 · have hd:=ZlO s i h2;have u1:=ZkS s i h2 hs big;have hr:=Zhp big s[i] s[i+1];have lo:=@Zwq big s[i] s[i+1] (s.data.toList.drop (i+2));have mi:=@Zwr big s[i] s[i+1] (s.data.toList.drop (i+2));have sh:=@Zwu big s[i] s[i+1] (s.data.toList.drop (i+2));have no:=fun c d=>@Zws big s[i] s[i+1] c d (s.data.toList.drop (i+2+2));have fo:=fun c d=>@Zwp big s[i] s[i+1] c d (s.data.toList.drop (i+2+2));have hl2:=Zn8 s (i+2);generalize Zs big s[i] s[i+1]=u at*;by_cases c1:u<55296
   · have hw:Hid (Zt big (s.data.toList.drop i)=(u,2)):=by rw [hd];exact lo (.inl c1)
     rw [hw.out];clear hl hd lo mi sh no fo hl2;go_enter Tryz.func177,Tryz.ntmps177
     go_wp2_with (go_at_call 245;refine(u1 _).mono ?_;rintro e w1 ⟨rfl,hb1⟩)
     go_ret2
     exact⟨rfl,hb1⟩
   by_cases c2:57344≤u
   · have hw:Hid (Zt big (s.data.toList.drop i)=(u,2)):=by rw [hd];exact lo (.inr c2)
     rw [hw.out];clear hl hd lo mi sh no fo hl2;go_enter Tryz.func177,Tryz.ntmps177
     go_wp2_with (go_at_call 245;refine(u1 _).mono ?_;rintro e w1 ⟨rfl,hb1⟩)
     go_ret2
     exact⟨rfl,hb1⟩
   have hn:¬(u<55296∨57344≤u):=by omega
   by_cases c3:56320≤u
   · have hw:Hid (Zt big (s.data.toList.drop i)=(0,0)):=by rw [hd];exact mi hn c3
     rw [hw.out];clear hl hd lo mi sh no fo hl2 hn;go_enter Tryz.func177,Tryz.ntmps177
     go_wp2_with (go_at_call 245;refine(u1 _).mono ?_;rintro e w1 ⟨rfl,hb1⟩)
     go_ret2
     exact⟨rfl,hb1⟩
   by_cases c4:s.size<i+4
   · have hw:Hid (Zt big (s.data.toList.drop i)=(0,0)):=by rw [hd];exact sh hn c3 (by omega)
     rw [hw.out];clear hl hd lo mi sh no fo hl2 hn;go_enter Tryz.func177,Tryz.ntmps177
     go_wp2_with (go_at_call 245;refine(u1 _).mono ?_;rintro e w1 ⟨rfl,hb1⟩)
     go_ret2
     exact⟨rfl,hb1⟩
   have h4:i+2+1<s.size:=by omega
   have hd2:=ZlO s (i+2) h4;have u2:=ZkS s (i+2) h4 hs big;rw [show(((i+2:Nat):Int))=(i:Int)+2 from by omega] at u2;have hr2:=Zhp big s[i+2] s[i+2+1];have no:=no s[i+2] s[i+2+1];have fo:=fo s[i+2] s[i+2+1];generalize Zs big s[i+2] s[i+2+1]=v at*;by_cases c5:v<56320
   · have hw:Hid (Zt big (s.data.toList.drop i)=(0,0)):=by rw [hd,hd2];exact no hn c3 (.inl c5)
     rw [hw.out];clear hl hd lo mi sh no fo hl2 hn hd2;go_enter Tryz.func177,Tryz.ntmps177
     go_wp2_with (go_at_call 245;first|(refine(u1 _).mono ?_;rintro e w1 ⟨rfl,hb1⟩;have hz1:=hb1.size;clear u1)|(refine(u2 _).mono ?_;rintro e w2 ⟨rfl,hb2⟩))
     go_ret2
     exact⟨rfl,hb1.trans (hb2.mono hz1)⟩
   by_cases c6:57344≤v
   · have hw:Hid (Zt big (s.data.toList.drop i)=(0,0)):=by rw [hd,hd2];exact no hn c3 (.inr c6)
     rw [hw.out];clear hl hd lo mi sh no fo hl2 hn hd2;go_enter Tryz.func177,Tryz.ntmps177
     go_wp2_with (go_at_call 245;first|(refine(u1 _).mono ?_;rintro e w1 ⟨rfl,hb1⟩;have hz1:=hb1.size;clear u1)|(refine(u2 _).mono ?_;rintro e w2 ⟨rfl,hb2⟩))
     go_ret2
     exact⟨rfl,hb1.trans (hb2.mono hz1)⟩
   have hw:Hid (Zt big (s.data.toList.drop i)=(65536+(u - 55296)*1024+(v - 56320),4)):=by rw [hd,hd2];exact fo hn c3 (by omega)
   rw [hw.out];clear hl hd lo mi sh no fo hl2 hn hd2;go_enter Tryz.func177,Tryz.ntmps177
   go_wp2_with (go_at_call 245;first|(refine(u1 _).mono ?_;rintro e w1 ⟨rfl,hb1⟩;have hz1:=hb1.size;clear u1)|(refine(u2 _).mono ?_;rintro e w2 ⟨rfl,hb2⟩))
   go_ret2
   exact⟨by simp,hb1.trans (hb2.mono hz1)⟩
 · have hw:Hid (Zt big (s.data.toList.drop i)=(0,0)):=by
    generalize s.data.toList.drop i=l at*
    match l,hl with
    |[],_=>rfl
    |[_],_=>rfl
    |_::_::_,h=>simp at h;omega
   rw [hw.out];clear hl;go_enter Tryz.func177,Tryz.ntmps177
   go_wp2_with fail
   go_ret2
   exact⟨rfl,Below.refl _ _⟩
def Zcf (big:Bool)(u:Int):List Int:=if big then [u / 256,u % 256] else [u % 256,u / 256]
def ZdK (big:Bool)(p:Int):List Int:=if p<65536 then Zcf big p else Zcf big (55296+(p - 65536) / 1024)++Zcf big (56320+(p - 65536) % 1024)
def ZaW (big:Bool)(ps:List Int):List Int:=ps.flatMap (ZdK big)
theorem ZoE (big:Bool)(a:List Int)(p:Int):ZaW big (a++[p])=ZaW big a++ZdK big p:=by simp [ZaW]
theorem Zwi (big:Bool)(p:Int):(ZdK big p).map (fun z=>z.toNat.toUInt8)=Zaw big p:=by
 unfold ZdK Zaw Zcf two;cases big<;>by_cases h:p<65536<;>simp [h]
theorem ZoD (big:Bool)(ps:List Int):(ZaW big ps).map (fun z=>z.toNat.toUInt8)=Zl big ps:=by
 induction ps with
 |nil=>rfl
 |cons p ps ih=>
  rw [Zev,←ih,←Zwi];simp [ZaW]
theorem Zvx (big:Bool)(ps:List Int):strOfNums (ZaW big ps)=⟨(Zl big ps).toArray⟩:=by
 rw [←ZoD];rfl
theorem ZcG (w:World)(x y:Value)(t:TypeId):∀j u,[x,y][j]? =some u→(w.alloc (.cells #[x,y] t)).cell? ((⟨w.heap.size,0,none⟩:Addr).add j)=some u:=by
 intro j u hu;have hadd:(⟨w.heap.size,0,none⟩:Addr).add j=⟨w.heap.size,j,none⟩:=by unfold Addr.add;split<;>simp_all
 rw [hadd,cell_of_row _ w.heap.size j _ t (0,0) (heap_alloc_new w _)];simpa using hu
theorem own_lt {w:World} {base:Nat} {e:TypeId} {size:Nat} {v:Value} {n:Nat} {xs:List Value} (h:w.ownsRow base e size v n xs){g:Nat} (hg:v.ownBlock=some g):g<w.heap.size:=by
 rcases h.2 with⟨rfl,_⟩|⟨g',cap,cur,rfl,hb,hq,rest⟩
 · simp [Value.ownBlock] at hg
 · have:g'=g:=by simpa [Value.ownBlock] using hg
   subst this;exact(Array.getElem?_eq_some_iff.1 hq).1
def Zaj (w w':World):Prop:=∀(K:Nat) s i,w.heap[K]? =some (.stringIter s i)→w'.heap[K]? =some (.stringIter s i)
theorem Zaj.alloc (w:World)(o:Obj):Zaj w (w.alloc o):=fun K s i h=>by
 have:=Below.heap_alloc w o K (ZfH h);rw [this,h]
theorem Zaj.trans {a b c:World} (h:Zaj a b)(k:Zaj b c):Zaj a c:=fun K s i hk=>k K s i (h K s i hk)
theorem Zaj.grown {w w':World} {base:Nat} {e:TypeId} {size:Nat} {v:Value} {n:Nat} {xs:List Value} (h:w.ownsRow base e size v n xs)(hg:w.grownBy w' v.ownBlock):Zaj w w':=fun K s i hk=>by
 rw [hg.block K (ZfH hk) (ZiL h hk),hk]
theorem Zlp {w:World} {a:Addr} {v:Value} (h:w.cell? a=some v):a.block<w.heap.size:=by
 by_cases hlt:a.block<w.heap.size
 · exact hlt
 · rw [World.cell?] at h;simp [Array.getElem?_eq_none (Nat.le_of_not_lt hlt)] at h
theorem Zmr {w w':World} {row:Option Nat} (hg:w.grownBy w' row){p:Addr} (hp:p.block<w.heap.size)(hr:some p.block≠row):w'.cell? p=w.cell? p:=by
 simp only [World.cell?,hg.block p.block hp hr]
theorem ZpH (big:Bool)(u:Int)(hu:0≤u∧u<65536)(b c B n:Nat)(v:Value)(xs:List Value)(w:World)(hown:w.ownsRow B 5 1 v n xs)(hc:w.cell? ⟨b,0,none⟩=some (.int .i32 u))
 (hlen:n+2≤140737488355328) (hB:B≤w.heap.size):
 Calls Tryz.prog 331 #[v,.bool big,.slice (some ⟨b,0,none⟩) 1 c] w fun e w'=>∃v',e= .returned v'∧w'.ownsRow B 5 1 v' (n+2) (xs++(Zcf big u).map (Value.int .u8))∧Below B w w'∧Zaj w w':=by
 obtain⟨i0,hi,iz0,iz1,iz2⟩:=info_parts Zgv;have hu1:=hu.1;have hu2:=hu.2;go_enter Tryz.func331,Tryz.ntmps331
 go_wp2_with fail
 refine wp_loop_rounds 2 ?_;rw [rounds_succ];cases big
 · go_wp2_with (at_builtin;refine wpList_append_own _ rfl _ _ 105 rfl B 5 i0 (.int .u8 0) 1 1 Tryz.underlying105 hi iz0 iz1 iz2 rfl (by decide) v n _ rfl (hown.alloc _) ⟨w.heap.size,0,none⟩ 2 2 [_,_] rfl rfl (ZcG _ _ _ _) (by intro u hu;simp at hu;rcases hu with rfl|rfl<;>rfl) (by unfold maxLen;omega) (by omega) (by simp;omega) ?_;intro v' w5 hown5 hg5 _)
   rw [rounds_succ];go_wp2_with fail
   go_ret
   have hb5:=Z7 (((Below.refl B w)).alloc hB (.cells #[.int .u8 (u % 256),.int .u8 (u / 256)] 5)) (hown.alloc _) hg5 (by simp;omega) (Nat.le_refl _);exact⟨v',rfl,hown5,hb5,(Zaj.alloc _ _).trans (Zaj.grown (hown.alloc _) hg5)⟩
 · go_wp2_with (at_builtin;refine wpList_append_own _ rfl _ _ 105 rfl B 5 i0 (.int .u8 0) 1 1 Tryz.underlying105 hi iz0 iz1 iz2 rfl (by decide) v n _ rfl (hown.alloc _) ⟨w.heap.size,0,none⟩ 2 2 [_,_] rfl rfl (ZcG _ _ _ _) (by intro u hu;simp at hu;rcases hu with rfl|rfl<;>rfl) (by unfold maxLen;omega) (by omega) (by simp;omega) ?_;intro v' w5 hown5 hg5 _)
   rw [rounds_succ];go_wp2_with fail
   go_ret
   have hb5:=Z7 (((Below.refl B w)).alloc hB (.cells #[.int .u8 (u / 256),.int .u8 (u % 256)] 5)) (hown.alloc _) hg5 (by simp;omega) (Nat.le_refl _);exact⟨v',rfl,hown5,hb5,(Zaj.alloc _ _).trans (Zaj.grown (hown.alloc _) hg5)⟩
theorem ZpI (big:Bool)(u t:Int)(hu:0≤u∧u<65536)(ht:0≤t∧t<65536)(b c B n:Nat)(v:Value)(xs:List Value)(w:World)(hown:w.ownsRow B 5 1 v n xs)
 (hc:w.cell? ⟨b,0,none⟩=some (.int .i32 u)) (hd:w.cell? ⟨b,1,none⟩=some (.int .i32 t)) (hne:v.ownBlock≠some b)
 (hlen:n+4≤140737488355328) (hB:B≤w.heap.size):
 Calls Tryz.prog 331 #[v,.bool big,.slice (some ⟨b,0,none⟩) 2 c] w fun e w'=>∃v',e= .returned v'∧w'.ownsRow B 5 1 v' (n+2+2) (xs++(Zcf big u).map (Value.int .u8)++(Zcf big t).map (Value.int .u8))∧Below B w w'∧Zaj w w':=by
 obtain⟨i0,hi,iz0,iz1,iz2⟩:=info_parts Zgv;have hu1:=hu.1;have hu2:=hu.2;have ht1:=ht.1;have ht2:=ht.2;have hlt:=Zlp hd;have hne1:some b≠v.ownBlock:=fun e=>hne e.symm;go_enter Tryz.func331,Tryz.ntmps331
 go_wp2_with fail
 refine wp_loop_rounds 3 ?_;rw [rounds_succ];cases big
 · go_wp2_with (at_builtin;refine wpList_append_own _ rfl _ _ 105 rfl B 5 i0 (.int .u8 0) 1 1 Tryz.underlying105 hi iz0 iz1 iz2 rfl (by decide) v n _ rfl (hown.alloc _) ⟨w.heap.size,0,none⟩ 2 2 [_,_] rfl rfl (ZcG _ _ _ _) (by intro u hu;simp at hu;rcases hu with rfl|rfl<;>rfl) (by unfold maxLen;omega) (by omega) (by simp;omega) ?_;intro v' w5 hown5 hg5 _)
   have hb5:=Z7 (((Below.refl B w)).alloc hB (.cells #[.int .u8 (u % 256),.int .u8 (u / 256)] 5)) (hown.alloc _) hg5 (by simp;omega) (Nat.le_refl _);have hk5:=(Zaj.alloc _ _).trans (Zaj.grown (hown.alloc (.cells #[.int .u8 (u % 256),.int .u8 (u / 256)] 5)) hg5);have hd5:w5.cell? ⟨b,1,none⟩=some (.int .i32 t):=by
    rw [Zmr hg5 (by simp;omega) hne1,World.cell?_alloc_lt w _ _ hlt,hd]
   have hs5:=hb5.size;rw [rounds_succ];go_wp2_with (at_builtin;refine wpList_append_own _ rfl _ _ 105 rfl B 5 i0 (.int .u8 0) 1 1 Tryz.underlying105 hi iz0 iz1 iz2 rfl (by decide) v' (n+2) _ rfl (hown5.alloc _) ⟨w5.heap.size,0,none⟩ 2 2 [_,_] rfl rfl (ZcG _ _ _ _) (by intro u hu;simp at hu;rcases hu with rfl|rfl<;>rfl) (by unfold maxLen;omega) (by omega) (by simp;omega) ?_;intro v'' w6 hown6 hg6 _)
   have hb6:=Z7 (hb5.alloc (by omega) (.cells #[.int .u8 (t % 256),.int .u8 (t / 256)] 5)) (hown5.alloc _) hg6 (by simp;omega) (Nat.le_refl _);have hk6:=hk5.trans ((Zaj.alloc _ _).trans (Zaj.grown (hown5.alloc (.cells #[.int .u8 (t % 256),.int .u8 (t / 256)] 5)) hg6));rw [rounds_succ];go_wp2_with fail
   go_ret
   exact⟨v'',rfl,hown6,hb6,hk6⟩
 · go_wp2_with (at_builtin;refine wpList_append_own _ rfl _ _ 105 rfl B 5 i0 (.int .u8 0) 1 1 Tryz.underlying105 hi iz0 iz1 iz2 rfl (by decide) v n _ rfl (hown.alloc _) ⟨w.heap.size,0,none⟩ 2 2 [_,_] rfl rfl (ZcG _ _ _ _) (by intro u hu;simp at hu;rcases hu with rfl|rfl<;>rfl) (by unfold maxLen;omega) (by omega) (by simp;omega) ?_;intro v' w5 hown5 hg5 _)
   have hb5:=Z7 (((Below.refl B w)).alloc hB (.cells #[.int .u8 (u / 256),.int .u8 (u % 256)] 5)) (hown.alloc _) hg5 (by simp;omega) (Nat.le_refl _);have hk5:=(Zaj.alloc _ _).trans (Zaj.grown (hown.alloc (.cells #[.int .u8 (u / 256),.int .u8 (u % 256)] 5)) hg5);have hd5:w5.cell? ⟨b,1,none⟩=some (.int .i32 t):=by
    rw [Zmr hg5 (by simp;omega) hne1,World.cell?_alloc_lt w _ _ hlt,hd]
   have hs5:=hb5.size;rw [rounds_succ];go_wp2_with (at_builtin;refine wpList_append_own _ rfl _ _ 105 rfl B 5 i0 (.int .u8 0) 1 1 Tryz.underlying105 hi iz0 iz1 iz2 rfl (by decide) v' (n+2) _ rfl (hown5.alloc _) ⟨w5.heap.size,0,none⟩ 2 2 [_,_] rfl rfl (ZcG _ _ _ _) (by intro u hu;simp at hu;rcases hu with rfl|rfl<;>rfl) (by unfold maxLen;omega) (by omega) (by simp;omega) ?_;intro v'' w6 hown6 hg6 _)
   have hb6:=Z7 (hb5.alloc (by omega) (.cells #[.int .u8 (t / 256),.int .u8 (t % 256)] 5)) (hown5.alloc _) hg6 (by simp;omega) (Nat.le_refl _);have hk6:=hk5.trans ((Zaj.alloc _ _).trans (Zaj.grown (hown5.alloc (.cells #[.int .u8 (t / 256),.int .u8 (t % 256)] 5)) hg6));rw [rounds_succ];go_wp2_with fail
   go_ret
   exact⟨v'',rfl,hown6,hb6,hk6⟩
def Zq6 (big:Bool)(ps:List Int)(w0:World)(O:Obj)(v i:Value)(wr:World):Prop:=
 ∃k j:Nat,Za9 big ps k j∧i= .int .i64 j∧wr.ownsRow (w0.heap.size+1) 5 1 v (ZM (ps.take k)).length ((ZM (ps.take k)).map (Value.int .u8))∧Below (w0.heap.size+1) (w0.alloc O) wr
theorem ZdX.sgn {big:Bool} {s:ByteArray} {ps:List Int} {k i n:Nat} {p:Int} (h:ZdX big s ps k i p n)(hi:i≤s.size)(hs:s.size≤140737488355328)(w:World):
 Calls Tryz.prog 177 #[.string s,.int .i64 i,.bool big] w fun e w'=>e= .returned (.tuple #[.int .i32 p,.int .i64 n])∧Below w.heap.size w w':=by
 have h2:=ZkI s i hi hs big w;rw [h.sign] at h2;exact h2
theorem Zqz {big:Bool} {s:ByteArray} {i:Nat} (hd:(Zt big (s.data.toList.drop i)).2=0)(hi:i≤s.size)(hs:s.size≤140737488355328)(w:World):
 Calls Tryz.prog 177 #[.string s,.int .i64 i,.bool big] w fun e w'=>(∃x,e= .returned (.tuple #[.int .i32 x,.int .i64 0]))∧Below w.heap.size w w':=by
 have h2:=ZkI s i hi hs big w;rw [hd] at h2;exact h2.mono fun e w' ⟨he,hb⟩=>⟨⟨_,he⟩,hb⟩
theorem ZkW (big:Bool)(s:ByteArray)(ps:List Int)(r:List UInt8)(hp:ZdW big s ps r)(hr:r=[]∨(Zt big r).2=0)(hs:s.size≤35184372088000)(w:World):
 Calls Tryz.prog 111 #[.string s,.bool big] w fun e w'=>
  ((r=[]∧e= .returned (.tuple #[.string ⟨(Zc ps).toArray⟩,.agg #[.int .i64 0,.int .i64 0]]))∨(r≠[]∧e= .returned (.tuple #[.string ⟨#[]⟩,.agg #[.int .i64 2,.int .i64 (Zl big ps).length]])))∧Below w.heap.size w w':=by
 go_enter Tryz.func111,Tryz.ntmps111
 go_wp2_with fail
 go_loopw [6,7] (fun v i wr=>Zq6 big ps w (.cells #[.int .i64 0,.int .i64 0] 39) v i wr) (fun _ i _=>s.size - (intOf i).toNat)
 case atStart=>exact⟨0,0,Za9.zero _ _,rfl,World.ownsRow_nil _ _ _ _,Below.refl _ _⟩
 case round=>
  obtain⟨k,i,hrun,rfl,hown,hb⟩:=hrel;have hle:=hrun.le hp;have hsz:=hb.size;have hsz':w.heap.size+1≤wr.heap.size:=by simpa using hsz
  have h4k:=(Zct (ps.take k)).2;rw [List.length_take] at h4k;have hzl:=Zhl (ps.take k);by_cases hk:k<ps.length
  · obtain⟨p,n,hst,hrun',hn1,hn4,hin,hp0,hp1⟩:=hrun.step hp hk;have hcap:(ZM (ps.take k)).length+4≤140737488355328:=by omega
    have hnext:Hid ((ZM (ps.take (k+1))).map (Value.int .u8)=(ZM (ps.take k)).map (Value.int .u8)++Lib.runeCells p):=by
     rw [hst.snoc hk,Zhm,List.map_append];rfl
    have hnext2:Hid ((ZM (ps.take (k+1))).length=(ZM (ps.take k)).length+(Lib.runeCells p).length):=by
     have:=congrArg List.length hnext.out;simp only [List.length_map,List.length_append] at this;exact this
    clear h4k hzl;go_wp2_with (first|(go_at_call 177;refine(hst.sgn (by omega) (by omega) _).mono ?_;rintro e w1 ⟨rfl,hb1⟩;have hown1:=ZG hown hb1;have hB1:=hb.trans (hb1.mono hsz');have hsz1:=hB1.size)|(go_at_call 178;refine(Tryz.utf8_AppendRune_plain _ _ _ _ p (by omega) (by omega) _ hown1 hcap (by simp at hsz1;omega)).mono ?_;rintro e w2 ⟨v',rfl,hown2,o,hg2⟩))
    have hb2:=Z7 (hB1.alloc (by simp at hsz1;omega) o) (hown1.alloc o) hg2 (by simp at hsz1⊢;omega) (Nat.le_refl _);rw [←hnext.out,←hnext2.out] at hown2;go_roundw
    case rel=>exact⟨k+1,i+n,hrun',by go_num,hown2,hb2⟩
    case measure=>simp [intOf];omega
  · have hk2:k=ps.length:=by omega
    subst hk2;obtain⟨hi2,hdr,hir⟩:=hrun.end_ hp;rw [List.take_length] at hown;by_cases hr0:r=[]
    · have hge:¬i<s.size:=by rw [hr0] at hir;simp at hir;omega
      have hconv:=Zd5 (P:=Tryz.prog) 105 9 5 Tryz.underlying105 Tryz.underlying5 Tryz.underlying9 wr hown;rw [Zhi] at hconv;obtain⟨hc0,hc1,hf0,hf1,hlt1⟩:=ZaD hb;clear hdr hir hi2;go_wp2_with fail
      refine bodyPost_ret (v:= .tuple #[.string ⟨(Zc ps).toArray⟩,.agg #[.int .i64 0,.int .i64 0]]) (by simp [results,Tryz.results111,go_sem,hc0,hc1]) rfl ⟨.inl ⟨hr0,rfl⟩,?_⟩;exact((((Below.refl _ w).alloc (Nat.le_refl _) _).trans (hb.mono (by omega))).setCell (Nat.le_refl _) _).setCell (Nat.le_refl _) _
    · have hlt:i<s.size:=by have:=List.length_pos_iff.2 hr0;omega
      have he:(Zt big (s.data.toList.drop i)).2=0:=by rw [hdr];exact hr.resolve_left hr0
      have Hi:=Lib.hid hi2;clear hdr hir hi2;go_wp2_with (go_at_call 177;refine(Zqz he (by omega) (by omega) _).mono ?_;rintro e w1 ⟨⟨x,rfl⟩,hb1⟩;have hB1:=hb.trans (hb1.mono hsz');obtain⟨hc0,hc1,hf0,hf1,hlt1⟩:=ZaD hB1)
      refine bodyPost_ret (v:= .tuple #[.string ⟨#[]⟩,.agg #[.int .i64 2,.int .i64 i]]) (by simp [results,Tryz.results111,go_sem,hc0,hc1]) rfl ⟨.inr ⟨hr0,by rw [←Hi.out]⟩,?_⟩;exact((((Below.refl _ w).alloc (Nat.le_refl _) _).trans (hB1.mono (by omega))).setCell (Nat.le_refl _) _).setCell (Nat.le_refl _) _
theorem ZkV (big:Bool)(s:ByteArray)(ps:List Int)(hp:ZeD big s ps)(hs:s.size≤35184372088000)(w:World):
 Calls Tryz.prog 111 #[.string s,.bool big] w fun e w'=>e= .returned (.tuple #[.string ⟨(Zc ps).toArray⟩,.agg #[.int .i64 0,.int .i64 0]])∧Below w.heap.size w w':=by
 refine(ZkW big s ps [] hp (.inl rfl) hs w).mono fun e w' ⟨h,hb⟩=> ?_;rcases h with⟨_,h⟩|⟨h,_⟩
 · exact⟨h,hb⟩
 · exact absurd rfl h
theorem ZkU (big:Bool)(s:ByteArray)(n:Nat)(hg:Zfs big s n)(hs:s.size≤35184372088000)(w:World):
 Calls Tryz.prog 111 #[.string s,.bool big] w fun e w'=>e= .returned (.tuple #[.string ⟨#[]⟩,.agg #[.int .i64 2,.int .i64 n]])∧Below w.heap.size w w':=by
 obtain⟨ps,r,hp,rfl,hr,he⟩:=hg;refine(ZkW big s ps r hp (.inr he) hs w).mono fun _ _ ⟨h,hb⟩=> ?_;rcases h with⟨h,_⟩|⟨_,h⟩
 · exact absurd h hr
 · exact⟨h,hb⟩
theorem Zrh {x:Int} (h0:0≤x)(h1:x<1048576):bits .and .i32 x 1023=x % 1024:=
 bits_mask .i32 31 (by decide) wraps_i32 10 (by decide) x h0 (by omega)
theorem Zwv (big:Bool)(ps:List Int):(ZaW big ps).length≤4*ps.length:=by
 have h:=(Zeb big ps).2;rw [←ZoD,List.length_map] at h;exact h
def EncRel (big:Bool)(ps:List Int)(s:ByteArray)(w0:World)(O:Obj)(K:Nat)(v:Value)(wr:World):Prop:=
 ∃k i:Nat,Run ps k i∧wr.heap[K]? =some (.stringIter s i)∧wr.ownsRow (w0.heap.size+1) 5 1 v (ZaW big (ps.take k)).length ((ZaW big (ps.take k)).map (Value.int .u8))∧Below (w0.heap.size+1) (w0.alloc O) wr
theorem Zq7 (big:Bool)(s:ByteArray)(ps:List Int)(hg:Good s ps)(hs:s.size≤35184372088000)(w:World)(hT:Zk w):
 Calls Tryz.prog 284 #[.string s,.bool big] w fun e w'=>e= .returned (.tuple #[.string ⟨(Zl big ps).toArray⟩,.agg #[.int .i64 0,.int .i64 0]])∧Below w.heap.size w w':=by
 have hlen:=hg.len;have hp:=hg.pre;go_enter Tryz.func284,Tryz.ntmps284
 go_wp2_with (go_at_call 145;refine(Zhz s ps hg (by omega) _ (by first|exact hT|exact ZN hT _)).mono ?_;rintro e w1 ⟨rfl,hb1⟩;have hz1:=Zac hb1;have HB1:=hb1.mono (B':=w.heap.size+1) (by simp);obtain⟨hc0,hc1,hf0,hf1,hlt1⟩:=ZaD HB1)
 refine(Zcy _ _ _).mono ?_;rintro e w2 ⟨rfl,hb2⟩;have hz2:=Zac hb2;have HB2:=(HB1.alloc (by omega) _).trans (hb2.mono (by simp;omega));have hit:=World.iter_heap w2 s 0;have hit2:(w2.alloc (.stringIter s 0)).heap.size=w2.heap.size+1:=by simp
 have hBi:=HB2.alloc (o:= .stringIter s 0) (by omega);clear hb1 hc0 hc1 hf0 hf1 hlt1 hb2 HB1;go_wp2_with fail
 go_loopw [7] (fun v wr=>EncRel big ps s w (.cells #[.int .i64 0,.int .i64 0] 39) w2.heap.size v wr) (fun _ wr=>s.size+1 - wr.iterPos w2.heap.size)
 case atStart=>exact⟨0,0,Run.zero _,hit,World.ownsRow_nil _ _ _ _,hBi⟩
 case round=>
  obtain⟨k,i,hrun,hK,hownk,hbk⟩:=hrel;have hle:=hrun.le hp;have hKlt:=ZfH hK;have h4k:=Zwv big (ps.take k);rw [List.length_take] at h4k;by_cases hk:k<ps.length
  · obtain⟨p,n,hst,hrun',hn1,hn4,hin,hp0,hp1,_⟩:=hrun.step hp hk;have hstep:=fun ty=>ZgY (P:=Tryz.prog) hst (by omega) wr w2.heap.size hK ty;have hown1:=Zi6 hownk hK (i+n);have hK1:=Lib.iterAt_heap wr w2.heap.size s i (i+n) hK;have hb1:=Lib.below_iterAt hbk (k:=w2.heap.size) (by omega) s (i+n);have hsz1:(wr.iterAt w2.heap.size s (i+n)).heap.size=wr.heap.size:=Lib.iterAt_size _ _ _ _;have hpos:=Zda hK;have hsc:=hst.2.2.2;have hnext:Hid ((ZaW big (ps.take (k+1))).map (Value.int .u8)=(ZaW big (ps.take k)).map (Value.int .u8)++(ZdK big p).map (Value.int .u8)):=by
     rw [hst.snoc hk,ZoE,List.map_append];rfl
    have hnextl:Hid ((ZaW big (ps.take (k+1))).length=(ZaW big (ps.take k)).length+(ZdK big p).length):=by
     rw [hst.snoc hk,ZoE,List.length_append];rfl
    have hcap:(ZaW big (ps.take k)).length+4≤140737488355328:=by omega
    rw [Zai] at hsc;clear h4k;generalize hW:wr.iterAt w2.heap.size s (i+n)=W at*;have hWB:w.heap.size+1≤W.heap.size:=by omega
    by_cases hlow:p<65536
    · have hj:=ZpH big p ⟨hp0,hlow⟩ W.heap.size 1 (w.heap.size+1) _ _ _ (W.alloc (.cells #[.int .i32 p] 21)) (hown1.alloc _) (cell_one_new W (.int .i32 p) 21 0 _ rfl) (by omega) (by simp;omega);rw [hsz1] at hj;have hez:Hid (ZdK big p=Zcf big p):=if_pos hlow;have hbW:=hb1.alloc (o:= .cells #[.int .i32 p] 21) hWB;have hKW:=Zaj.alloc W (.cells #[.int .i32 p] 21) _ _ _ hK1;go_wp2_with (go_at_call 331;refine hj.mono ?_;rintro e w5 ⟨v',rfl,hown5,hb5,hk5⟩)
      have hK5:=hk5 _ _ _ hKW;have hb6:=hbW.trans hb5;rw [←hez.out,←hnext.out] at hown5;have hl2:(ZaW big (ps.take k)).length+2=(ZaW big (ps.take (k+1))).length:=by
       rw [hnextl.out,hez.out];unfold Zcf;split<;>rfl
      rw [hl2] at hown5;refine⟨⟨k+1,i+n,hrun',hK5,hown5,hb6⟩,?_⟩;rw [hpos,Zda hK5];omega
    · have hr0:0≤p - 65536:=by omega
      have hr1:p - 65536<1048576:=by omega
      have hand:=Zrh hr0 hr1;have hj:=ZpI big (55296+(p - 65536) / 1024) (56320+(p - 65536) % 1024) (by omega) (by omega) W.heap.size 2 (w.heap.size+1) _ _ _ (W.alloc (.cells #[.int .i32 (55296+(p - 65536) / 1024),.int .i32 (56320+(p - 65536) % 1024)] 21)) (hown1.alloc _) (ZcG W _ _ 21 0 _ rfl) (ZcG W _ _ 21 1 _ rfl) (fun h=>by have:=own_lt hown1 h;omega) (by omega) (by simp;omega);rw [hsz1] at hj;have hez:Hid (ZdK big p=Zcf big (55296+(p - 65536) / 1024)++Zcf big (56320+(p - 65536) % 1024)):=if_neg hlow;have hbW:=hb1.alloc (o:= .cells #[.int .i32 (55296+(p - 65536) / 1024),.int .i32 (56320+(p - 65536) % 1024)] 21) hWB;have hKW:=Zaj.alloc W (.cells #[.int .i32 (55296+(p - 65536) / 1024),.int .i32 (56320+(p - 65536) % 1024)] 21) _ _ _ hK1;go_wp2_with (go_at_call 331;refine hj.mono ?_;rintro e w5 ⟨v',rfl,hown5,hb5,hk5⟩)
      have hK5:=hk5 _ _ _ hKW;have hb6:=hbW.trans hb5;rw [List.append_assoc,←List.map_append,←hez.out,←hnext.out] at hown5;have hl2:(ZaW big (ps.take k)).length+2+2=(ZaW big (ps.take (k+1))).length:=by
       rw [hnextl.out,hez.out];unfold Zcf;split<;>rfl
      rw [hl2] at hown5;refine⟨⟨k+1,i+n,hrun',hK5,hown5,hb6⟩,?_⟩;rw [hpos,Zda hK5];omega
  · have hk2:k=ps.length:=by omega
    subst hk2;obtain⟨hi,_,hie⟩:=hrun.end_ hp;have hend:=fun ty=>Lib.run_next_end_at (P:=Tryz.prog) wr w2.heap.size s i ty hK (by simp at hie;omega);obtain⟨hc0,hc1,hf0,hf1,hlt1⟩:=ZaD hbk;rw [List.take_length] at hownk;have hconv:=Zd5 (P:=Tryz.prog) 105 9 5 Tryz.underlying105 Tryz.underlying5 Tryz.underlying9 wr hownk;rw [Zvx] at hconv;clear h4k;go_wp2_with fail
    refine bodyPost_ret (v:= .tuple #[.string ⟨(Zl big ps).toArray⟩,.agg #[.int .i64 0,.int .i64 0]]) (by simp [results,Tryz.results284,go_sem,hc0,hc1]) rfl ⟨rfl,?_⟩;exact(((((Below.refl _ w).alloc (Nat.le_refl _) _).trans (hbk.mono (by omega))).setCell (Nat.le_refl _) _).setCell (Nat.le_refl _) _)
end Go.Proofs.YtlhllehffkoloaaGreatDoor
