/- Lemmas for a statement on the tops; conditions: as each says. -/
import Derived.LoopN
import Derived.Test.YtlfinljfghhpdaaGreatDoorM2
set_option linter.unusedVariables false
set_option linter.unusedSimpArgs false
set_option maxRecDepth 100000
set_option maxHeartbeats 1000000
namespace Go.Proofs.YtlfinljfghhpdaaGreatDoor
open Go Go.RowKit
def ZbV (n p:Int):Int×Int:=if Ze p=true∧((Lib.encodeRune p).length:Int)=n then(p,n) else(0,0)
def atZ (c m1 m2 m3:Int):Int×Int:=
 if c<128 then(c,1)
 else if 192≤c∧c<224 then(if m1<0 then(0,0) else ZbV 2 ((c - 192)*64+m1))
 else if 224≤c∧c<240 then(if m1<0 then(0,0) else if m2<0 then(0,0) else ZbV 3 (((c - 224)*64+m1)*64+m2))
 else if 240≤c∧c<248 then(if m1<0 then(0,0) else if m2<0 then(0,0) else if m3<0 then(0,0) else ZbV 4 ((((c - 240)*64+m1)*64+m2)*64+m3))
 else(0,0)
def Zda (R:Int×Int)(w:World)(e:Ending)(w':World):Prop:=e= .returned (.tuple #[.int .i32 R.1,.int .i64 R.2])∧Below w.heap.size w w'
theorem Zfl {a b:Int} {R:Int×Int} {w w':World} (h:R=(a,b))(hb:Below w.heap.size w w'):Zda R w (.returned (.tuple #[.int .i32 a,.int .i64 b])) w':=by
 subst h;exact⟨rfl,hb⟩
theorem Zd3 (l:List UInt8)(i:Nat): -1≤Zw l i∧Zw l i<64:=by
 unfold Zw;split
 · omega
 · split<;>omega
theorem At_2 (s:ByteArray)(i:Nat)(hi:i<s.size)(hz:s.size≤140737488355328)(c m1 m2 m3:Int)(hc:(s[i]).toNat=c)(h1:Zw s.data.toList (i+1)=m1)(hc2:192≤c∧c<224)(w:World):
 Calls Tryz.prog 16 #[.string s,.int .i64 i] w (Zda (atZ c m1 m2 m3) w):=by
 have b1:=Zd3 s.data.toList (i+1);rw [h1] at b1;go_enter Tryz.func16,Tryz.ntmps16
 go_wp2_with fail
 refine wp_loop_rounds 4 ?_;rw [rounds_succ];go_wp2_with (first|(go_at_call 30;refine(ZbP _ _ (by omega) _).mono ?_;rintro e w' ⟨rfl,rfl⟩)|(go_at_call 31;refine(ZbI _ _).mono ?_;rintro e w' ⟨rfl,rfl⟩)|(go_at_call 23;refine(Za7 (by assumption) _).mono ?_;rintro e w' ⟨rfl,hb⟩))
 all_goals try (rw [rounds_succ];go_wp2_with (first|(go_at_call 30;refine(ZbP _ _ (by omega) _).mono ?_;rintro e w' ⟨rfl,rfl⟩)|(go_at_call 31;refine(ZbI _ _).mono ?_;rintro e w' ⟨rfl,rfl⟩)|(go_at_call 23;refine(Za7 (by assumption) _).mono ?_;rintro e w' ⟨rfl,hb⟩)))
 all_goals try (rw [rounds_succ];go_wp2_with (first|(go_at_call 30;refine(ZbP _ _ (by omega) _).mono ?_;rintro e w' ⟨rfl,rfl⟩)|(go_at_call 31;refine(ZbI _ _).mono ?_;rintro e w' ⟨rfl,rfl⟩)|(go_at_call 23;refine(Za7 (by assumption) _).mono ?_;rintro e w' ⟨rfl,hb⟩)))
 all_goals try (rw [rounds_succ];go_wp2_with (first|(go_at_call 30;refine(ZbP _ _ (by omega) _).mono ?_;rintro e w' ⟨rfl,rfl⟩)|(go_at_call 31;refine(ZbI _ _).mono ?_;rintro e w' ⟨rfl,rfl⟩)|(go_at_call 23;refine(Za7 (by assumption) _).mono ?_;rintro e w' ⟨rfl,hb⟩)))
 all_goals
  go_ret2
  refine Zfl ?_ (by first|exact Below.refl _ _|assumption);unfold atZ ZbV
  repeat' split
  all_goals first|rfl|(exfalso;omega)|(simp_all;done)
theorem At_3 (s:ByteArray)(i:Nat)(hi:i<s.size)(hz:s.size≤140737488355328)(c m1 m2 m3:Int)(hc:(s[i]).toNat=c)(h1:Zw s.data.toList (i+1)=m1)(h2:Zw s.data.toList (i+2)=m2)(hc2:224≤c∧c<240)(w:World):
 Calls Tryz.prog 16 #[.string s,.int .i64 i] w (Zda (atZ c m1 m2 m3) w):=by
 have b1:=Zd3 s.data.toList (i+1);rw [h1] at b1;have b2:=Zd3 s.data.toList (i+2);rw [h2] at b2;go_enter Tryz.func16,Tryz.ntmps16
 go_wp2_with fail
 refine wp_loop_rounds 4 ?_;rw [rounds_succ];go_wp2_with (first|(go_at_call 30;refine(ZbP _ _ (by omega) _).mono ?_;rintro e w' ⟨rfl,rfl⟩)|(go_at_call 31;refine(ZbI _ _).mono ?_;rintro e w' ⟨rfl,rfl⟩)|(go_at_call 23;refine(Za7 (by assumption) _).mono ?_;rintro e w' ⟨rfl,hb⟩))
 all_goals try (rw [rounds_succ];go_wp2_with (first|(go_at_call 30;refine(ZbP _ _ (by omega) _).mono ?_;rintro e w' ⟨rfl,rfl⟩)|(go_at_call 31;refine(ZbI _ _).mono ?_;rintro e w' ⟨rfl,rfl⟩)|(go_at_call 23;refine(Za7 (by assumption) _).mono ?_;rintro e w' ⟨rfl,hb⟩)))
 all_goals try (rw [rounds_succ];go_wp2_with (first|(go_at_call 30;refine(ZbP _ _ (by omega) _).mono ?_;rintro e w' ⟨rfl,rfl⟩)|(go_at_call 31;refine(ZbI _ _).mono ?_;rintro e w' ⟨rfl,rfl⟩)|(go_at_call 23;refine(Za7 (by assumption) _).mono ?_;rintro e w' ⟨rfl,hb⟩)))
 all_goals try (rw [rounds_succ];go_wp2_with (first|(go_at_call 30;refine(ZbP _ _ (by omega) _).mono ?_;rintro e w' ⟨rfl,rfl⟩)|(go_at_call 31;refine(ZbI _ _).mono ?_;rintro e w' ⟨rfl,rfl⟩)|(go_at_call 23;refine(Za7 (by assumption) _).mono ?_;rintro e w' ⟨rfl,hb⟩)))
 all_goals
  go_ret2
  refine Zfl ?_ (by first|exact Below.refl _ _|assumption);unfold atZ ZbV
  repeat' split
  all_goals first|rfl|(exfalso;omega)|(simp_all;done)
theorem At_4 (s:ByteArray)(i:Nat)(hi:i<s.size)(hz:s.size≤140737488355328)(c m1 m2 m3:Int)(hc:(s[i]).toNat=c)(h1:Zw s.data.toList (i+1)=m1)(h2:Zw s.data.toList (i+2)=m2)(h3:Zw s.data.toList (i+3)=m3)(hc2:240≤c∧c<248)(w:World):
 Calls Tryz.prog 16 #[.string s,.int .i64 i] w (Zda (atZ c m1 m2 m3) w):=by
 have b1:=Zd3 s.data.toList (i+1);rw [h1] at b1;have b2:=Zd3 s.data.toList (i+2);rw [h2] at b2;have b3:=Zd3 s.data.toList (i+3);rw [h3] at b3;go_enter Tryz.func16,Tryz.ntmps16
 go_wp2_with fail
 refine wp_loop_rounds 4 ?_;rw [rounds_succ];go_wp2_with (first|(go_at_call 30;refine(ZbP _ _ (by omega) _).mono ?_;rintro e w' ⟨rfl,rfl⟩)|(go_at_call 31;refine(ZbI _ _).mono ?_;rintro e w' ⟨rfl,rfl⟩)|(go_at_call 23;refine(Za7 (by assumption) _).mono ?_;rintro e w' ⟨rfl,hb⟩))
 all_goals try (rw [rounds_succ];go_wp2_with (first|(go_at_call 30;refine(ZbP _ _ (by omega) _).mono ?_;rintro e w' ⟨rfl,rfl⟩)|(go_at_call 31;refine(ZbI _ _).mono ?_;rintro e w' ⟨rfl,rfl⟩)|(go_at_call 23;refine(Za7 (by assumption) _).mono ?_;rintro e w' ⟨rfl,hb⟩)))
 all_goals try (rw [rounds_succ];go_wp2_with (first|(go_at_call 30;refine(ZbP _ _ (by omega) _).mono ?_;rintro e w' ⟨rfl,rfl⟩)|(go_at_call 31;refine(ZbI _ _).mono ?_;rintro e w' ⟨rfl,rfl⟩)|(go_at_call 23;refine(Za7 (by assumption) _).mono ?_;rintro e w' ⟨rfl,hb⟩)))
 all_goals try (rw [rounds_succ];go_wp2_with (first|(go_at_call 30;refine(ZbP _ _ (by omega) _).mono ?_;rintro e w' ⟨rfl,rfl⟩)|(go_at_call 31;refine(ZbI _ _).mono ?_;rintro e w' ⟨rfl,rfl⟩)|(go_at_call 23;refine(Za7 (by assumption) _).mono ?_;rintro e w' ⟨rfl,hb⟩)))
 all_goals
  go_ret2
  refine Zfl ?_ (by first|exact Below.refl _ _|assumption);unfold atZ ZbV
  repeat' split
  all_goals first|rfl|(exfalso;omega)|(simp_all;done)
theorem At_0 (s:ByteArray)(i:Nat)(hi:i<s.size)(c m1 m2 m3:Int)(hc:(s[i]).toNat=c)(hc2:c<192∨248≤c)(w:World):
 Calls Tryz.prog 16 #[.string s,.int .i64 i] w (Zda (atZ c m1 m2 m3) w):=by
 have hb:0≤c∧c<256:=by have:=(s[i]).toNat_lt;omega
 go_enter Tryz.func16,Tryz.ntmps16
 go_wp2_with fail
 all_goals
  go_ret2
  refine Zfl ?_ (Below.refl _ _);unfold atZ
  repeat' split
  all_goals first|rfl|(exfalso;omega)
theorem ZnO (s:ByteArray)(i:Nat)(hi:i<s.size)(hz:s.size≤140737488355328)(w:World):
 Calls Tryz.prog 16 #[.string s,.int .i64 i] w (Zda (atZ (s[i]).toNat (Zw s.data.toList (i+1)) (Zw s.data.toList (i+2)) (Zw s.data.toList (i+3))) w):=by
 by_cases c2:192≤((s[i]).toNat:Int)∧((s[i]).toNat:Int)<224
 · exact At_2 s i hi hz _ _ _ _ rfl rfl c2 w
 by_cases c3:224≤((s[i]).toNat:Int)∧((s[i]).toNat:Int)<240
 · exact At_3 s i hi hz _ _ _ _ rfl rfl rfl c3 w
 by_cases c4:240≤((s[i]).toNat:Int)∧((s[i]).toNat:Int)<248
 · exact At_4 s i hi hz _ _ _ _ rfl rfl rfl rfl c4 w
 · exact At_0 s i hi _ _ _ _ rfl (by omega) w
theorem ZhW (l:List UInt8)(i k:Nat):Zw l (i+k)=Zw (l.drop i) k:=by
 unfold Zw;rw [List.length_drop];have:(l.drop i).getD k 0=l.getD (i+k) 0:=by simp [List.getD,List.getElem?_drop]
 rw [this];have e:(l.length≤i+k)↔(l.length - i≤k):=by omega
 simp only [e]
def atL (d:List UInt8):Int×Int:=atZ (d.getD 0 0).toNat (Zw d 1) (Zw d 2) (Zw d 3)
theorem ZbC (b:UInt8)(l:List UInt8)(k:Nat):Zw (b::l) (k+1)=Zw l k:=by
 unfold Zw;rw [List.length_cons,List.getD_cons_succ];have e:(l.length+1≤k+1)↔(l.length≤k):=by omega
 simp only [e]
theorem Zd5 (b:UInt8)(l:List UInt8)(h0:128≤b.toNat)(h1:b.toNat≤191):Zw (b::l) 0=(b.toNat:Int) - 128:=by
 unfold Zw;rw [List.length_cons,List.getD_cons_zero,if_neg (by omega),if_neg (by omega)]
theorem Zd4 {l:List UInt8} {k:Nat} (h:0≤Zw l k):k<l.length∧128≤(l.getD k 0).toNat∧(l.getD k 0).toNat≤191∧Zw l k=(l.getD k 0).toNat - 128:=by
 revert h
 unfold Zw;split
 · intro h;omega
 · split
   · intro h;omega
   · intro _;omega
theorem Zqs {p:Int} (h:Ze p=true)(t:List UInt8):atL (Lib.encodeRune p++t)=(p,((Lib.encodeRune p).length:Int)):=by
 rcases Zdn h with⟨h0,h1⟩|⟨h0,h1⟩|h3|⟨h0,h1⟩
 · rw [ZbY h0 h1];simp only [atL,List.cons_append,List.nil_append,List.getD_cons_zero,Z9 p h0 (by omega),List.length_cons,List.length_nil];unfold atZ;rw [if_pos (by omega)];exact Prod.ext (by simp only;omega) rfl
 · have hl:=congrArg List.length (ZcE h0 h1);simp only [List.length_cons,List.length_nil] at hl;rw [hl,ZcE h0 h1];have e0:=Z9 (192+p / 64) (by omega) (by omega);have e1:=Z9 (128+p % 64) (by omega) (by omega);simp only [atL,List.cons_append,List.nil_append,List.getD_cons_zero];rw [show Zw ((192+p / 64).toNat.toUInt8::(128+p % 64).toNat.toUInt8::t) 1=p % 64 from by
    rw [show(1:Nat)=0+1 from rfl,ZbC,Zd5 _ _ (by omega) (by omega)];omega]
   rw [e0];unfold atZ;rw [if_neg (by omega),if_pos (by omega),if_neg (by omega)];have:((((192+p / 64).toNat:Nat):Int) - 192)*64+p % 64=p:=by omega
   rw [this];unfold ZbV;rw [if_pos ⟨h,by rw [hl];rfl⟩];rfl
 · have hl:=congrArg List.length (ZcD h3);simp only [List.length_cons,List.length_nil] at hl;rw [hl,ZcD h3];have e0:=Z9 (224+p / 4096) (by omega) (by omega);have e1:=Z9 (128+p / 64 % 64) (by omega) (by omega);have e2:=Z9 (128+p % 64) (by omega) (by omega);simp only [atL,List.cons_append,List.nil_append,List.getD_cons_zero];rw [show Zw ((224+p / 4096).toNat.toUInt8::(128+p / 64 % 64).toNat.toUInt8::(128+p % 64).toNat.toUInt8::t) 1=p / 64 % 64 from by
    rw [show(1:Nat)=0+1 from rfl,ZbC,Zd5 _ _ (by omega) (by omega)];omega]
   rw [show Zw ((224+p / 4096).toNat.toUInt8::(128+p / 64 % 64).toNat.toUInt8::(128+p % 64).toNat.toUInt8::t) 2=p % 64 from by
    rw [show(2:Nat)=0+1+1 from rfl,ZbC,ZbC,Zd5 _ _ (by omega) (by omega)];omega]
   rw [e0];unfold atZ;rw [if_neg (by omega),if_neg (by omega),if_pos (by omega),if_neg (by omega),if_neg (by omega)];have:((((224+p / 4096).toNat:Nat):Int) - 224)*64+p / 64 % 64=p / 64:=by omega
   rw [this];have:p / 64*64+p % 64=p:=by omega
   rw [this];unfold ZbV;rw [if_pos ⟨h,by rw [hl];rfl⟩];rfl
 · have hl:=congrArg List.length (ZcC h0 h1);simp only [List.length_cons,List.length_nil] at hl;rw [hl,ZcC h0 h1];have e0:=Z9 (240+p / 262144) (by omega) (by omega);have e1:=Z9 (128+p / 4096 % 64) (by omega) (by omega);have e2:=Z9 (128+p / 64 % 64) (by omega) (by omega);have e3:=Z9 (128+p % 64) (by omega) (by omega);simp only [atL,List.cons_append,List.nil_append,List.getD_cons_zero];rw [show Zw ((240+p / 262144).toNat.toUInt8::(128+p / 4096 % 64).toNat.toUInt8::(128+p / 64 % 64).toNat.toUInt8::(128+p % 64).toNat.toUInt8::t) 1=p / 4096 % 64 from by
    rw [show(1:Nat)=0+1 from rfl,ZbC,Zd5 _ _ (by omega) (by omega)];omega]
   rw [show Zw ((240+p / 262144).toNat.toUInt8::(128+p / 4096 % 64).toNat.toUInt8::(128+p / 64 % 64).toNat.toUInt8::(128+p % 64).toNat.toUInt8::t) 2=p / 64 % 64 from by
    rw [show(2:Nat)=0+1+1 from rfl,ZbC,ZbC,Zd5 _ _ (by omega) (by omega)];omega]
   rw [show Zw ((240+p / 262144).toNat.toUInt8::(128+p / 4096 % 64).toNat.toUInt8::(128+p / 64 % 64).toNat.toUInt8::(128+p % 64).toNat.toUInt8::t) 3=p % 64 from by
    rw [show(3:Nat)=0+1+1+1 from rfl,ZbC,ZbC,ZbC,Zd5 _ _ (by omega) (by omega)];omega]
   rw [e0];unfold atZ;rw [if_neg (by omega),if_neg (by omega),if_neg (by omega),if_pos (by omega),if_neg (by omega),if_neg (by omega),if_neg (by omega)];have:((((240+p / 262144).toNat:Nat):Int) - 240)*64+p / 4096 % 64=p / 4096:=by omega
   rw [this];have:p / 4096*64+p / 64 % 64=p / 64:=by omega
   rw [this];have:p / 64*64+p % 64=p:=by omega
   rw [this];unfold ZbV;rw [if_pos ⟨h,by rw [hl];rfl⟩];rfl
theorem ZgY (n p:Int):ZbV n p=(0,0)∨(Ze p=true∧((Lib.encodeRune p).length:Int)=n):=by
 unfold ZbV;split
 · rename_i h;exact .inr h
 · exact .inl rfl
theorem Zr9 {p:Int} (h:Ze p=true)(hl:((Lib.encodeRune p).length:Int)=2):128≤p∧p≤2047:=by
 rcases Zdn h with⟨h0,h1⟩|h2|h3|⟨h0,h1⟩
 · rw [ZbY h0 h1] at hl;simp at hl
 · exact h2
 · rw [ZcD h3] at hl;simp at hl
 · rw [ZcC h0 h1] at hl;simp at hl
theorem Zr8 {p:Int} (h:Ze p=true)(hl:((Lib.encodeRune p).length:Int)=3):(2048≤p∧p<55296)∨(57343<p∧p≤65535):=by
 rcases Zdn h with⟨h0,h1⟩|⟨h0,h1⟩|h3|⟨h0,h1⟩
 · rw [ZbY h0 h1] at hl;simp at hl
 · rw [ZcE h0 h1] at hl;simp at hl
 · exact h3
 · rw [ZcC h0 h1] at hl;simp at hl
theorem Zr7 {p:Int} (h:Ze p=true)(hl:((Lib.encodeRune p).length:Int)=4):65536≤p∧p≤1114111:=by
 rcases Zdn h with⟨h0,h1⟩|⟨h0,h1⟩|h3|h4
 · rw [ZbY h0 h1] at hl;simp at hl
 · rw [ZcE h0 h1] at hl;simp at hl
 · rw [ZcD h3] at hl;simp at hl
 · exact h4
theorem atL_or (d:List UInt8)(hd:d≠[]):atL d=(0,0)∨∃p t,d=Lib.encodeRune p++t∧Ze p=true:=by
 match d,hd with
 |b0::r,_=>
  have k0:=b0.toNat_lt;unfold atL;rw [List.getD_cons_zero,show(1:Nat)=0+1 from rfl,ZbC,show(2:Nat)=1+1 from rfl,ZbC,show(3:Nat)=2+1 from rfl,ZbC];unfold atZ;by_cases c0:((b0.toNat:Nat):Int)<128
  · refine .inr ⟨b0.toNat,r,?_,by rw [Z1];omega⟩;rw [ZbY (by omega) (by omega)];simp only [List.cons_append,List.nil_append,List.cons.injEq,and_true];exact(Z6 rfl).symm
  rw [if_neg c0];by_cases c1:192≤((b0.toNat:Nat):Int)∧((b0.toNat:Nat):Int)<224
  · rw [if_pos c1];by_cases m1:Zw r 0<0
    · rw [if_pos m1];exact .inl rfl
    rw [if_neg m1];obtain⟨l1,a1,z1,e1⟩:=Zd4 (l:=r) (k:=0) (by omega)
    match r,l1 with
    |b1::r,_=>
     have k1:=b1.toNat_lt;rw [List.getD_cons_zero] at a1 z1 e1;rw [e1];rcases ZgY 2 (((b0.toNat:Int) - 192)*64+((b1.toNat:Int) - 128)) with h|⟨h,hl⟩
     · exact .inl h
     · have hp:=Zr9 h hl;refine .inr ⟨_,r,?_,h⟩;rw [ZcE hp.1 hp.2];simp only [List.cons_append,List.nil_append,List.cons.injEq,and_true];exact⟨(Z6 (by omega)).symm,(Z6 (by omega)).symm⟩
  rw [if_neg c1];by_cases c2:224≤((b0.toNat:Nat):Int)∧((b0.toNat:Nat):Int)<240
  · rw [if_pos c2];by_cases m1:Zw r 0<0
    · rw [if_pos m1];exact .inl rfl
    rw [if_neg m1];by_cases m2:Zw r 1<0
    · rw [if_pos m2];exact .inl rfl
    rw [if_neg m2];obtain⟨_,a1,z1,e1⟩:=Zd4 (l:=r) (k:=0) (by omega);obtain⟨l2,a2,z2,e2⟩:=Zd4 (l:=r) (k:=1) (by omega)
    match r,l2 with
    |b1::b2::r,_=>
     have k1:=b1.toNat_lt;have k2:=b2.toNat_lt;rw [List.getD_cons_zero] at a1 z1 e1;rw [List.getD_cons_succ,List.getD_cons_zero] at a2 z2 e2;rw [e1,e2];rcases ZgY 3 ((((b0.toNat:Int) - 224)*64+((b1.toNat:Int) - 128))*64+((b2.toNat:Int) - 128)) with h|⟨h,hl⟩
     · exact .inl h
     · have hp:=Zr8 h hl;refine .inr ⟨_,r,?_,h⟩;rw [ZcD hp];simp only [List.cons_append,List.nil_append,List.cons.injEq,and_true];exact⟨(Z6 (by omega)).symm,(Z6 (by omega)).symm,(Z6 (by omega)).symm⟩
  rw [if_neg c2];by_cases c3:240≤((b0.toNat:Nat):Int)∧((b0.toNat:Nat):Int)<248
  · rw [if_pos c3];by_cases m1:Zw r 0<0
    · rw [if_pos m1];exact .inl rfl
    rw [if_neg m1];by_cases m2:Zw r 1<0
    · rw [if_pos m2];exact .inl rfl
    rw [if_neg m2];by_cases m3:Zw r 2<0
    · rw [if_pos m3];exact .inl rfl
    rw [if_neg m3];obtain⟨_,a1,z1,e1⟩:=Zd4 (l:=r) (k:=0) (by omega);obtain⟨_,a2,z2,e2⟩:=Zd4 (l:=r) (k:=1) (by omega);obtain⟨l3,a3,z3,e3⟩:=Zd4 (l:=r) (k:=2) (by omega)
    match r,l3 with
    |b1::b2::b3::r,_=>
     have k1:=b1.toNat_lt;have k2:=b2.toNat_lt;have k3:=b3.toNat_lt;rw [List.getD_cons_zero] at a1 z1 e1;rw [List.getD_cons_succ,List.getD_cons_zero] at a2 z2 e2;rw [List.getD_cons_succ,List.getD_cons_succ,List.getD_cons_zero] at a3 z3 e3;rw [e1,e2,e3];rcases ZgY 4 (((((b0.toNat:Int) - 240)*64+((b1.toNat:Int) - 128))*64+((b2.toNat:Int) - 128))*64+((b3.toNat:Int) - 128)) with h|⟨h,hl⟩
     · exact .inl h
     · have hp:=Zr7 h hl;refine .inr ⟨_,r,?_,h⟩;rw [ZcC hp.1 hp.2];simp only [List.cons_append,List.nil_append,List.cons.injEq,and_true];exact⟨(Z6 (by omega)).symm,(Z6 (by omega)).symm,(Z6 (by omega)).symm,(Z6 (by omega)).symm⟩
  rw [if_neg c3];exact .inl rfl
theorem Zqt {d:List UInt8} (hd:d≠[])(h:ZaF (Zu d)):atL d=(0,0):=by
 rcases atL_or d hd with h1|⟨p,t,h1,h2⟩
 · exact h1
 · subst h1;exact absurd h (ZfQ h2 t)
theorem ZjD (s:ByteArray)(i:Nat)(hi:i<s.size)(hz:s.size≤140737488355328)(w:World):
 Calls Tryz.prog 16 #[.string s,.int .i64 i] w (Zda (atL (s.data.toList.drop i)) w):=by
 have h:=ZnO s i hi hz w;rw [ZhW,ZhW,ZhW] at h;have e:(s[i])=(s.data.toList.drop i).getD 0 0:=by
  rw [←Zht s i hi];simp [List.getD,List.getElem?_drop]
 rw [e] at h;exact h
theorem ZjV (s:ByteArray)(hs:s.size≤140737488355328)(w:World)(hT:Zj w):
 Calls Tryz.prog 95 #[.string s] w fun e w'=>e= .returned (.bool (Lib.validD s.data.toList))∧Below w.heap.size w w':=by
 have hv:=Any.utf8_ValidString Tryz.laysValid s w (by omega) hT;go_enter Tryz.func95,Tryz.ntmps95
 go_wp2_with (go_at_call 175;refine hv.mono ?_;rintro e w1 ⟨rfl,hb1⟩)
 go_ret
 exact⟨rfl,hb1⟩
theorem ZhU (a b:List UInt8):(⟨a.toArray⟩:ByteArray)++⟨b.toArray⟩=⟨(a++b).toArray⟩:=by
 apply ByteArray.ext
 simp
def Zpl (ps:List Int)(w0:World)(s i:Value)(wr:World):Prop:=∃k:Nat,k≤ps.length∧i= .int .i64 k∧s= .string ⟨(Zb (ps.take k)).toArray⟩∧Below w0.heap.size w0 wr
theorem Zpm (A:Option Addr)(c:Nat)(ps:List Int)(w:World){B:Nat} (hn:ZA w B .i32 A ps)(hB:B≤w.heap.size)(hps:∀p∈ps,Ze p=true)(hl:ps.length≤2000000):
 Calls Tryz.prog 15 #[.slice A ps.length c] w fun e w'=>e= .returned (.string ⟨(Zb ps).toArray⟩)∧Below w.heap.size w w':=by
 go_enter Tryz.func15,Tryz.ntmps15
 go_wp2
 go_loopw [3,4] (fun s i wr=>Zpl ps w s i wr) (fun _ i _=>ps.length - (intOf i).toNat)
 case atStart=>exact⟨0,Nat.zero_le _,rfl,rfl,Below.refl _ _⟩
 case round=>
  obtain⟨k,hk,rfl,rfl,hb⟩:=hrel;have hnr:=hn.below (hb.mono hB);by_cases hlt:k<ps.length
  · obtain⟨ad,p,rfl,_,hc,hp,hm⟩:=hnr.get hlt;have hs:=hps p hm;have h4:=(Zah (ps.take k)).2;rw [List.length_take] at h4;have he:=Zbx p;have hnext:Hid ((⟨(Zb (ps.take (k+1))).toArray⟩:ByteArray)=⟨(Zb (ps.take k)).toArray⟩++⟨(Lib.encodeRune p).toArray⟩):=by
     rw [ZbR hlt,hp.out,ZeR];exact(ZhU _ _).symm
    clear hnr hn hps;go_wp2_with (go_at_call 23;refine(Za7 hs _).mono ?_;rintro e w1 ⟨rfl,hb1⟩)
    go_roundw
    case rel=>exact⟨k+1,by omega,by go_num,by rw [hnext.out],hb.trans (hb1.mono hb.size)⟩
    case measure=>simp [intOf];omega
  · have hk2:k=ps.length:=by omega
    subst hk2;rw [List.take_length];clear hnr hn hps;go_wp2
    go_ret
    exact⟨rfl,hb⟩
theorem ZbH {s:ByteArray} {ps:List Int} {k i n:Nat} {p:Int} (h:Step s ps k i p n)(hi:i<s.size)(hz:s.size≤140737488355328)(w:World):
 Calls Tryz.prog 16 #[.string s,.int .i64 i] w fun e w'=>e= .returned (.tuple #[.int .i32 p,.int .i64 n])∧Below w.heap.size w w':=by
 obtain⟨⟨t,ht⟩,hn,_,hs⟩:=h;have h2:=ZjD s i hi hz w;rw [ht,Zqs hs,←hn] at h2;exact h2
theorem ZoY (s:ByteArray)(i:Nat)(hi:i<s.size)(hd:ZaF (Zu (s.data.toList.drop i)))(hz:s.size≤140737488355328)(w:World):
 Calls Tryz.prog 16 #[.string s,.int .i64 i] w fun e w'=>e= .returned (.tuple #[.int .i32 0,.int .i64 0])∧Below w.heap.size w w':=by
 have h2:=ZjD s i hi hz w;have hne:s.data.toList.drop i≠[]:=by
  intro h;have:=congrArg List.length h;simp at this;omega
 rw [Zqt hne hd] at h2;exact h2
def Zpe (ps:List Int)(w0:World)(v i:Value)(wr:World):Prop:=
 ∃k j:Nat,Run ps k j∧i= .int .i64 j∧wr.ownsRow w0.heap.size 21 1 v k ((ps.take k).map (Value.int .i32))∧Below w0.heap.size w0 wr
theorem ZjF (s:ByteArray)(ps:List Int)(r:List UInt8)(hp:Pre s ps r)(hr:r=[]∨ZaF (Zu r))(hs:s.size≤35184372088000)(w:World):
 Calls Tryz.prog 6 #[.string s] w fun e w'=>
  ((r=[]∧∃v,e= .returned (.tuple #[v,.int .i64 (-1)])∧w'.ownsRow w.heap.size 21 1 v ps.length (ps.map (Value.int .i32)))∨(r≠[]∧e= .returned (.tuple #[.slice none 0 0,.int .i64 (Zb ps).length])))∧Below w.heap.size w w':=by
 obtain⟨i0,hi,iz0,iz1,iz2⟩:=info_parts ZmT;go_enter Tryz.func6,Tryz.ntmps6
 go_wp2
 go_loopw [4,5] (fun v i wr=>Zpe ps w v i wr) (fun _ i _=>s.size - (intOf i).toNat)
 case atStart=>exact⟨0,0,Run.zero _,rfl,World.ownsRow_nil _ _ _ _,Below.refl _ _⟩
 case round=>
  obtain⟨k,i,hrun,rfl,hown,hb⟩:=hrel;have hle:=hrun.le hp;have hsz:=hb.size;by_cases hk:k<ps.length
  · obtain⟨p,n,hst,hrun',hn1,hn4,hin,_,_,_⟩:=hrun.step hp hk;have hnext:Hid ((ps.take (k+1)).map (Value.int .i32)=(ps.take k).map (Value.int .i32)++[.int .i32 p]):=by
     rw [hst.snoc hk,List.map_append];rfl
    go_wp2_with (first|(go_at_call 16;refine(ZbH hst (by omega) (by omega) _).mono ?_;rintro e w1 ⟨rfl,hb1⟩;have hown1:=Zt hown hb1;have hB1:=hb.trans (hb1.mono hsz);have hsz1:=hB1.size)|(at_builtin;refine wpList_append_own _ rfl _ _ 25 rfl w.heap.size 21 i0 (.int .i32 0) 1 4 Tryz.underlying25 hi iz0 iz1 iz2 rfl (by decide) u4 k _ rfl (hown1.alloc _) ⟨w1.heap.size,0,none⟩ 1 1 [.int .i32 p] rfl rfl (cell_one_new _ _ _) (by intro u hu;simp at hu;subst hu;rfl) (by unfold maxLen;omega) (by omega) (by simp;omega) ?_;intro v' w5 hown5 hg5 _))
    rw [←hnext.out] at hown5;have hb5:=Z3 (hB1.alloc hsz1 (.cells #[.int .i32 p] 21)) (hown1.alloc _) hg5 (by simp;omega) (Nat.le_refl _);go_roundw
    case rel=>exact⟨k+1,i+n,hrun',by go_num,hown5,hb5⟩
    case measure=>simp [intOf];omega
  · have hk2:k=ps.length:=by omega
    subst hk2;obtain⟨hi2,hdr,hir⟩:=hrun.end_ hp;rw [List.take_length] at hown;by_cases hr0:r=[]
    · have hge:¬i<s.size:=by rw [hr0] at hir;simp at hir;omega
      clear hdr hir hi2;go_wp2_with fail
      go_ret2
      exact⟨.inl ⟨hr0,_,rfl,hown⟩,hb⟩
    · have hlt:i<s.size:=by have:=List.length_pos_iff.2 hr0;omega
      have he:ZaF (Zu (s.data.toList.drop i)):=by rw [hdr];exact hr.resolve_left hr0
      have Hi:=Lib.hid hi2;clear hdr hir hi2;go_wp2_with (go_at_call 16;refine(ZoY s i hlt he (by omega) _).mono ?_;rintro e w1 ⟨rfl,hb1⟩)
      go_ret2
      rw [←Hi.out];exact⟨.inr ⟨hr0,rfl⟩,hb.trans (hb1.mono hsz)⟩
theorem ZgJ (s:ByteArray)(ps:List Int)(hg:Good s ps)(hs:s.size≤35184372088000)(w:World):
 Calls Tryz.prog 6 #[.string s] w fun e w'=>∃A c,e= .returned (.tuple #[.slice A ps.length c,.int .i64 (-1)])∧ps.length≤c∧ZA w' w'.heap.size .i32 A ps∧Below w.heap.size w w':=by
 refine(ZjF s ps [] hg.pre (.inl rfl) hs w).mono fun e w' ⟨h,hb⟩=> ?_;rcases h with⟨_,v,he,hown⟩|⟨h,_⟩
 · obtain⟨A,c,hv,hc,_,hn⟩:=ZA.of_own hown;subst hv;exact⟨A,c,he,hc,hn,hb⟩
 · exact absurd rfl h
theorem ZjE (s:ByteArray)(n:Nat)(hg:Zbr s n)(hs:s.size≤35184372088000)(w:World):
 Calls Tryz.prog 6 #[.string s] w fun e w'=>e= .returned (.tuple #[.slice none 0 0,.int .i64 n])∧Below w.heap.size w w':=by
 obtain⟨ps,r,hp,rfl,hr,he⟩:=hg.pre;refine(ZjF s ps r hp (.inr he) hs w).mono fun _ _ ⟨h,hb⟩=> ?_;rcases h with⟨h,_⟩|⟨_,h⟩
 · exact absurd h hr
 · exact⟨h,hb⟩
end Go.Proofs.YtlfinljfghhpdaaGreatDoor
namespace Go.Proofs.YtlfinljfghhpdaaGreatDoor
open Go
def Zm (big:Bool)(a b:UInt8):Int:=if big then(a.toNat:Int)*256+b.toNat else(b.toNat:Int)*256+a.toNat
def Zp (big:Bool):List UInt8→Int×Nat
 |a::b::r=>
  if Zm big a b<55296∨57344≤Zm big a b then(Zm big a b,2)
  else if 56320≤Zm big a b then(0,0)
  else match r with
   |c::d::_=>if Zm big c d<56320∨57344≤Zm big c d then(0,0) else(65536+(Zm big a b - 55296)*1024+(Zm big c d - 56320),4)
   |_=>(0,0)
 |_=>(0,0)
def two (big:Bool)(u:Int):List UInt8:=if big then [(u / 256).toNat.toUInt8,(u % 256).toNat.toUInt8] else [(u % 256).toNat.toUInt8,(u / 256).toNat.toUInt8]
def ZaN (big:Bool)(p:Int):List UInt8:=if p<65536 then two big p else two big (55296+(p - 65536) / 1024)++two big (56320+(p - 65536) % 1024)
def ZX (big:Bool)(ps:List Int):List UInt8:=ps.flatMap (ZaN big)
theorem Zei (big:Bool):ZX big []=[]:=rfl
theorem Zeh (big:Bool)(p:Int)(ps:List Int):ZX big (p::ps)=ZaN big p++ZX big ps:=rfl
theorem ZiZ (big:Bool)(a b:List Int):ZX big (a++b)=ZX big a++ZX big b:=by simp [ZX]
theorem Zgh (big:Bool)(a b:UInt8):0≤Zm big a b∧Zm big a b<65536:=by
 have:=a.toNat_lt;have:=b.toNat_lt;unfold Zm;split<;>omega
theorem ZiE (big:Bool){u:Int} (h0:0≤u)(h1:u<65536):∃a b,two big u=[a,b]∧Zm big a b=u:=by
 cases big
 · refine⟨_,_,rfl,?_⟩;simp only [Zm,Bool.false_eq_true,if_false,Z9 (u / 256) (by omega) (by omega),Z9 (u % 256) (by omega) (by omega)];omega
 · refine⟨_,_,rfl,?_⟩;simp only [Zm,if_true,Z9 (u / 256) (by omega) (by omega),Z9 (u % 256) (by omega) (by omega)];omega
theorem ZiF (big:Bool)(a b:UInt8):two big (Zm big a b)=[a,b]:=by
 have:=a.toNat_lt;have:=b.toNat_lt;cases big<;>simp only [two,Zm,Bool.false_eq_true,if_false,if_true,List.cons.injEq,and_true]<;>exact⟨Z6 (by omega),Z6 (by omega)⟩
theorem ZuB (big:Bool)(u:Int):(two big u).length=2:=by unfold two;split<;>rfl
theorem Zgi (big:Bool)(p:Int):(ZaN big p).length=if p<65536 then 2 else 4:=by
 unfold ZaN;split<;>simp [ZuB]
theorem ZeW (big:Bool)(p:Int):2≤(ZaN big p).length∧(ZaN big p).length≤4:=by
 rw [Zgi];split<;>omega
theorem ZnD (big:Bool)(p:Int):ZaN big p≠[]:=by
 intro h;have:=(ZeW big p).1;rw [h] at this;simp at this
theorem ZnI (big:Bool){p:Int} (h:Ze p=true)(t:List UInt8):Zp big (ZaN big p++t)=(p,(ZaN big p).length):=by
 rw [Z1] at h;rw [Zgi];unfold ZaN;by_cases hp:p<65536
 · rw [if_pos hp,if_pos hp];obtain⟨a,b,e,hu⟩:=ZiE big (u:=p) (by omega) hp;rw [e];simp only [List.cons_append,List.nil_append,Zp,hu];rw [if_pos (by omega)]
 · rw [if_neg hp,if_neg hp];obtain⟨a,b,e,hu⟩:=ZiE big (u:=55296+(p - 65536) / 1024) (by omega) (by omega);obtain⟨c,d,e2,hv⟩:=ZiE big (u:=56320+(p - 65536) % 1024) (by omega) (by omega);rw [e,e2];simp only [List.cons_append,List.nil_append,Zp,hu,hv];rw [if_neg (by omega),if_neg (by omega),if_neg (by omega)];exact Prod.ext (by simp only;omega) rfl
theorem ZuZ (big:Bool){l:List UInt8} (he:(Zp big l).2≠0):∃t,l=ZaN big (Zp big l).1++t∧Ze (Zp big l).1=true∧(ZaN big (Zp big l).1).length=(Zp big l).2:=by
 match l with
 |[]=>exact absurd rfl he
 |[_]=>exact absurd rfl he
 |a::b::r=>
  have hu:=Zgh big a b;by_cases h1:Zm big a b<55296∨57344≤Zm big a b
  · simp only [Zp,if_pos h1];refine⟨r,?_,by rw [Z1];omega,by rw [Zgi,if_pos (by omega)]⟩;rw [ZaN,if_pos (by omega),ZiF];rfl
  · by_cases h2:56320≤Zm big a b
    · simp only [Zp,if_neg h1,if_pos h2] at he;exact absurd rfl he
    · match r with
      |[]=>simp only [Zp,if_neg h1,if_neg h2] at he;exact absurd rfl he
      |[_]=>simp only [Zp,if_neg h1,if_neg h2] at he;exact absurd rfl he
      |c::d::r=>
       have hv:=Zgh big c d;by_cases h3:Zm big c d<56320∨57344≤Zm big c d
       · simp only [Zp,if_neg h1,if_neg h2,if_pos h3] at he;exact absurd rfl he
       · simp only [Zp,if_neg h1,if_neg h2,if_neg h3];refine⟨r,?_,by rw [Z1];omega,by rw [Zgi,if_neg (by omega)]⟩;rw [ZaN,if_neg (by omega)];have e1:55296+(65536+(Zm big a b - 55296)*1024+(Zm big c d - 56320) - 65536) / 1024=Zm big a b:=by omega
         have e2:56320+(65536+(Zm big a b - 55296)*1024+(Zm big c d - 56320) - 65536) % 1024=Zm big c d:=by omega
         rw [e1,e2,ZiF,ZiF];rfl
def Zde (big:Bool)(s:ByteArray)(ps:List Int)(r:List UInt8):Prop:=s.data.toList=ZX big ps++r∧∀p∈ps,Ze p=true
def Zfh (big:Bool)(s:ByteArray)(ps:List Int):Prop:=Zde big s ps []
def Zfg (big:Bool)(s:ByteArray)(n:Nat):Prop:=∃ps r,Zde big s ps r∧n=(ZX big ps).length∧r≠[]∧(Zp big r).2=0
def ZaP (big:Bool)(ps:List Int)(k i:Nat):Prop:=k≤ps.length∧i=(ZX big (ps.take k)).length
theorem Znh (big:Bool):∀n (l:List UInt8),l.length≤n→∃ps r,l=ZX big ps++r∧(∀p∈ps,Ze p=true)∧(r=[]∨(Zp big r).2=0)
 |0,l,h=>⟨[],[],by simpa [Zei] using h,by simp,.inl rfl⟩
 |n+1,l,h=>by
  by_cases he:(Zp big l).2=0
  · exact⟨[],l,by simp [Zei],by simp,.inr he⟩
  obtain⟨t,ht,hs,_⟩:=ZuZ big he;have hlt:t.length≤n:=by
   have h1:=congrArg List.length ht;rw [List.length_append] at h1;have:=(ZeW big (Zp big l).1).1;omega
  obtain⟨ps,r,h1,h2,h3⟩:=Znh big n t hlt;refine⟨(Zp big l).1::ps,r,?_,?_,h3⟩
  · rw [Zeh,List.append_assoc,←h1];exact ht
  · intro p hp;rcases List.mem_cons.1 hp with rfl|hp
    · exact hs
    · exact h2 p hp
theorem ZuT (big:Bool)(s:ByteArray):(∃ps,Zfh big s ps)∨∃n,Zfg big s n:=by
 obtain⟨ps,r,h1,h2,h3⟩:=Znh big _ s.data.toList (Nat.le_refl _);by_cases hr:r=[]
 · subst hr;exact .inl ⟨ps,h1,h2⟩
 · exact .inr ⟨_,ps,r,⟨h1,h2⟩,rfl,hr,h3.resolve_left hr⟩
theorem ZaP.zero (big:Bool)(ps:List Int):ZaP big ps 0 0:=⟨Nat.zero_le _,rfl⟩
theorem ZaP.drop {big:Bool} {s:ByteArray} {ps:List Int} {r:List UInt8} {k i:Nat} (hp:Zde big s ps r)(h:ZaP big ps k i):s.data.toList.drop i=ZX big (ps.drop k)++r:=by
 have e:ZX big ps=ZX big (ps.take k)++ZX big (ps.drop k):=by rw [←ZiZ,List.take_append_drop]
 rw [hp.1,e,List.append_assoc,h.2,List.drop_left]
theorem ZaP.next {big:Bool} {ps:List Int} {k i:Nat} (h:ZaP big ps k i)(hk:k<ps.length):ZaP big ps (k+1) (i+(ZaN big (ps.getD k 0)).length):=
 ⟨hk,by rw [ZbR hk,ZiZ,List.length_append,←h.2,Zeh,Zei,List.append_nil]⟩
theorem ZaP.end_ {big:Bool} {s:ByteArray} {ps:List Int} {r:List UInt8} {i:Nat} (hp:Zde big s ps r)(h:ZaP big ps ps.length i):i=(ZX big ps).length∧s.data.toList.drop i=r∧i+r.length=s.size:=by
 have hd:=h.drop hp;rw [List.drop_length,Zei,List.nil_append] at hd;have h2:=h.2;rw [List.take_length] at h2;refine⟨h2,hd,?_⟩;have hl:=congrArg List.length hp.1;rw [List.length_append] at hl;have hs:s.data.toList.length=s.size:=by simp
 omega
theorem ZlB (big:Bool)(ps:List Int):2*ps.length≤(ZX big ps).length∧(ZX big ps).length≤4*ps.length:=by
 induction ps with
 |nil=>simp [Zei]
 |cons p ps ih=>
  have:=ZeW big p;rw [Zeh,List.length_append,List.length_cons];omega
theorem ZaP.le {big:Bool} {s:ByteArray} {ps:List Int} {r:List UInt8} {k i:Nat} (hp:Zde big s ps r)(h:ZaP big ps k i):2*k≤i∧i≤s.size∧k≤ps.length:=by
 have h1:=(ZlB big (ps.take k)).1;rw [List.length_take,←h.2] at h1;have h0:=h.1;have hl:=congrArg List.length hp.1;have e:ZX big ps=ZX big (ps.take k)++ZX big (ps.drop k):=by rw [←ZiZ,List.take_append_drop]
 rw [e,List.length_append,List.length_append,←h.2] at hl;have hs:s.data.toList.length=s.size:=by simp
 omega
def Zdf (big:Bool)(s:ByteArray)(ps:List Int)(k i:Nat)(p:Int)(n:Nat):Prop:=
 (∃t,s.data.toList.drop i=ZaN big p++t)∧n=(ZaN big p).length∧p=ps.getD k 0∧Ze p=true
theorem ZaP.step {big:Bool} {s:ByteArray} {ps:List Int} {r:List UInt8} {k i:Nat} (hp:Zde big s ps r)(h:ZaP big ps k i)(hk:k<ps.length):
 ∃(p:Int) (n:Nat),Zdf big s ps k i p n∧ZaP big ps (k+1) (i+n)∧2≤n∧n≤4∧i+n≤s.size∧0≤p∧p≤1114111:=by
 have hd:=h.drop hp;rw [Zkw hk,Zeh,List.append_assoc] at hd;have hl:=congrArg List.length hd;rw [List.length_drop,List.length_append] at hl;have h1:=ZeW big (ps.getD k 0);have hs:s.data.toList.length=s.size:=by simp
 have hsc:=hp.2 _ (Zdo hk);have h4:=Z1.1 hsc;exact⟨_,_,⟨⟨_,hd⟩,rfl,rfl,hsc⟩,h.next hk,h1.1,h1.2,by omega,h4.1,h4.2.1⟩
theorem Zdf.snoc {big:Bool} {s:ByteArray} {ps:List Int} {k i n:Nat} {p:Int} (h:Zdf big s ps k i p n)(hk:k<ps.length):ps.take (k+1)=ps.take k++[p]:=by
 rw [ZbR hk,h.2.2.1]
theorem Zdf.sign {big:Bool} {s:ByteArray} {ps:List Int} {k i n:Nat} {p:Int} (h:Zdf big s ps k i p n):Zp big (s.data.toList.drop i)=(p,n):=by
 obtain⟨⟨t,ht⟩,hn,_,hs⟩:=h;rw [ht,ZnI big hs,hn]
end Go.Proofs.YtlfinljfghhpdaaGreatDoor
