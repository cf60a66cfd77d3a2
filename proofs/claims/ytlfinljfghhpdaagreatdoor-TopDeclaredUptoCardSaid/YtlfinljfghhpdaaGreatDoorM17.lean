/- Lemmas for a statement on the tops; conditions: as each says. -/
import Derived.Test.YtlfinljfghhpdaaGreatDoorM16
set_option linter.unusedVariables false
set_option linter.unusedSimpArgs false
set_option maxRecDepth 100000
set_option maxHeartbeats 1000000
namespace Go.Proofs.YtlfinljfghhpdaaGreatDoor
open Go Go.RowKit
def ML (w:World):Prop:=∃m:Int,w.cell? ⟨3,0,none⟩=some (.int .i64 m)
theorem Zoy {w w':World} {B:Nat} (h:ML w)(hb:Below B w w')(hB:w.heap.size≤B):ML w':=by
 obtain⟨m,hm⟩:=h;exact⟨m,(hb.cell (p:=⟨_,0,none⟩) (Nat.lt_of_lt_of_le (World.block_lt_of_cell? _ _ hm) hB)).trans hm⟩
def ZbG (k:Int)(b:Bool)(p:Int):Prop:=(k<0∧p=0)∨(0≤k∧ZcQ k.toNat b p)
theorem ZhL {k:Int} {b:Bool} {p q:Int} (h1:ZbG k b p)(h2:ZbG k b q):p=q:=by
 rcases h1 with⟨a,rfl⟩|⟨a,h1⟩<;>rcases h2 with⟨c,rfl⟩|⟨c,h2⟩
 · rfl
 · omega
 · omega
 · exact Zlu h1 h2
theorem Zlt {k:Int} {b:Bool} {p:Int} (h:ZbG k b p):p≠0↔(0≤k∧k<(if b then 2350 else 8822)):=by
 rcases h with⟨a,rfl⟩|⟨a,h⟩
 · constructor
   · intro h;exact absurd rfl h
   · intro h;omega
 · have:=kth_ne h;rw [ZqP] at this;cases b<;>simp only [Bool.false_eq_true,if_false,if_true] at this⊢<;>rw [this]<;>omega
def Zgs (k:Int)(b:Bool)(w0:World)(e:Ending)(w':World):Prop:=∃p,e= .returned (.tuple #[.int .i32 p,.bool (p !=0)])∧ZbG k b p∧Below w0.heap.size w0 w'
theorem Zje (k:Int)(hk:k≤9223372036854775807)(b:Bool)(w:World)(hD:DB w):
 Calls Tryz.prog 386 #[.int .i64 k,.bool b] w (Zgs k b w):=by
 by_cases h0:k<0
 · exact(Zn1 k h0 b w).mono fun e w' h=>⟨0,h.1,.inl ⟨h0,rfl⟩,h.2⟩
 · have:=Zn0 k.toNat (by omega) b w hD;rw [show((k.toNat:Nat):Int)=k by omega] at this;exact this.mono fun e w' ⟨p,h1,h2,h3⟩=>⟨p,h1,.inr ⟨by omega,h2⟩,h3⟩
theorem ZoT (k:Int)(hk:k≤9223372036854775807)(w:World)(hD:DB w):
 Calls Tryz.prog 384 #[.int .i64 k] w (Zgs k true w):=by
 have hc:=fun w=>Zje k hk true w;go_enter Tryz.func384,Tryz.ntmps384
 go_wp2_with (first|(go_at_call 386;refine(hc _ hD).mono ?_;rintro e w1 ⟨p,rfl,hp,hb1⟩))
 go_ret2
 exact⟨p,rfl,hp,hb1⟩
theorem Zjm (k:Int)(hk:k≤9223372036854775807)(w:World)(hD:DB w):
 Calls Tryz.prog 347 #[.int .i64 k] w (Zgs k false w):=by
 have hc:=fun w=>Zje k hk false w;go_enter Tryz.func347,Tryz.ntmps347
 go_wp2_with (first|(go_at_call 386;refine(hc _ hD).mono ?_;rintro e w1 ⟨p,rfl,hp,hb1⟩))
 go_ret2
 exact⟨p,rfl,hp,hb1⟩
def ZW (b:Int):Int:=if 65≤b∧b≤90 then b - 65 else if 97≤b∧b≤122 then b - 97+26 else if 129≤b∧b≤254 then b - 129+52 else -1
def Zca (n:Int):Int:=if n<26 then 65+n else if n<52 then 97+n - 26 else 129+n - 52
theorem ZoH (b:Int)(hb: -1000≤b∧b≤1000)(w:World):
 Calls Tryz.prog 345 #[.int .i64 b] w fun e w'=>e= .returned (.int .i64 (ZW b))∧Below w.heap.size w w':=by
 have h0:=hb.1;have h1:=hb.2;go_enter Tryz.func345,Tryz.ntmps345
 go_wp2
 all_goals go_ret
 all_goals refine⟨Za4 ?_,Below.refl _ _⟩
 all_goals unfold ZW
 all_goals repeat' split
 all_goals omega
theorem ZtI (b:Int): -1≤ZW b∧ZW b≤177:=by
 unfold ZW
 repeat' split
 all_goals omega
theorem Zf6 {n:Int} (h:0≤n∧n<178):ZW (Zca n)=n∧65≤Zca n∧Zca n≤254∧(n<84→Zca n<161):=by
 unfold ZW Zca
 repeat' split
 all_goals omega
def Za9 (lead b p:Int):Prop:=if b=255 then p=0 else if 176≤lead∧lead≤200 then ZbG ((lead - 176)*94+b - 161) true p else p=Zb2 lead b
def ZjI (lead b:Int)(w0:World)(e:Ending)(w':World):Prop:=∃p,e= .returned (.tuple #[.int .i32 p,.bool (p !=0)])∧Za9 lead b p∧Below w0.heap.size w0 w'
theorem Zsw (p:Int):(!decide (p=0))=(p !=0):=by
 by_cases h:p=0<;>simp [h]
theorem Zqh (lead b:Int)(hl:161≤lead∧lead≤254)(hb:161≤b∧b≤255)(w:World)(hD:DB w):
 Calls Tryz.prog 346 #[.int .i64 (lead - 161),.int .i64 (b - 161)] w (ZjI lead b w):=by
 generalize hP:ZjI lead b w=P at*;by_cases h255:b=255
 · have hd:decide ((94:Int)≤b - 161)=true:=by simp;omega
   go_enter Tryz.func346,Tryz.ntmps346
   go_wp2_with fail
   show P (.returned (.tuple #[.int .i32 0,.bool false])) w
   rw [←hP];exact⟨0,rfl,by unfold Za9;rw [if_pos h255],Below.refl _ _⟩
 · have hd:decide ((94:Int)≤b - 161)=false:=by simp;omega
   have hR:∀p,Za9 lead b p↔(if 176≤lead∧lead≤200 then ZbG ((lead - 176)*94+b - 161) true p else p=Zb2 lead b):=fun p=>by unfold Za9;rw [if_neg h255]
   have hpl:=fun w=>ZoT ((lead - 161)*94+(b - 161) - 1410) (by omega) w;have hot:=fun w=>ZoK lead b (by omega) (by omega) w;have he:(lead - 161)*94+(b - 161) - 1410=(lead - 176)*94+b - 161:=by omega
   have hor:bits .or .i64 ((lead - 161+161)*256) (b - 161+161)=lead*256+b:=by
    rw [show lead - 161+161=lead by omega,show b - 161+161=b by omega];exact ZhE (by omega) (by omega) (by omega) (by omega)
   have He:=Lib.hid he;have HR:=Lib.hid hR;clear hR he;generalize hf:lead - 161=f at*;generalize hs:b - 161=s at*;have Hf:=Lib.hid hf;have Hs:=Lib.hid hs;have f0:0≤f∧f≤93:=by omega
   have s0:0≤s∧s≤93:=by omega
   clear hf hs;go_enter Tryz.func346,Tryz.ntmps346
   go_wp2_with (first|(go_at_call 384;refine(hpl _ hD).mono ?_;rintro e w1 ⟨p,rfl,hp,hb1⟩)|(go_at_call 385;refine(hot _).mono ?_;rintro e w2 ⟨rfl,hb2⟩))
   · rename_i hne
     have hne2:p≠0:=by simpa using hne
     have hk:=(Zlt hp).1 hne2;simp only [if_true] at hk;have hrng:176≤lead∧lead≤200:=by have:=Hf.out;have:=Hs.out;omega
     show P (.returned (.tuple #[.int .i32 p,.bool true])) w1
     rw [←hP];exact⟨p,by rw [hne],(HR.out p).2 (by rw [if_pos hrng,←He.out];exact hp),hb1⟩
   · rename_i hne
     have hne2:¬(p≠0):=by simpa using hne
     have hk:=fun h=>hne2 ((Zlt hp).2 h);simp only [if_true] at hk;have hrng:¬(176≤lead∧lead≤200):=by
      intro h;have:=Hf.out;have:=Hs.out;exact hk (by omega)
     show P (.returned (.tuple #[.int .i32 (Zb2 lead b),.bool (!decide (Zb2 lead b=0))])) w2
     rw [←hP];exact⟨Zb2 lead b,by rw [Zsw],(HR.out _).2 (by rw [if_neg hrng]),hb1.trans (hb2.mono hb1.size)⟩
def Z2 (lead b p:Int):Prop:=if ZW b<0∨lead<129∨254<lead then p=0 else if lead<161 then ZbG ((lead - 129)*178+ZW b) false p else if b<161 then ZbG (5696+(lead - 161)*84+ZW b) false p else Za9 lead b p
def ZjP (lead b:Int)(w0:World)(e:Ending)(w':World):Prop:=∃p,e= .returned (.tuple #[.int .i32 p,.bool (p !=0)])∧Z2 lead b p∧Below w0.heap.size w0 w'
theorem ZpK (lead b:Int)(hl:0≤lead∧lead≤255)(hb:0≤b∧b≤255)(w:World)(hD:DB w):
 Calls Tryz.prog 305 #[.int .u8 lead,.int .u8 b] w (ZjP lead b w):=by
 generalize hP:ZjP lead b w=P at*;have hnum:=fun w=>ZoH b (by omega) w;have hsb:=ZtI b;obtain⟨l0,l1⟩:=hl;obtain⟨b0,b1⟩:=hb;by_cases hA:lead<129∨254<lead
 · have hr:Z2 lead b 0:=by unfold Z2;rw [if_pos (by omega)]
   have Hr:=Lib.hid hr;clear hr;generalize ZW b=n at*;rcases hA with h|h
   · go_enter Tryz.func305,Tryz.ntmps305
     go_wp2_with (first|(go_at_call 345;refine(hnum _).mono ?_;rintro e w1 ⟨rfl,hb1⟩))
     show P (.returned (.tuple #[.int .i32 0,.bool false])) _
     rw [←hP];exact⟨0,rfl,Hr.out,hb1⟩
   · have h2:¬lead<129:=by omega
     go_enter Tryz.func305,Tryz.ntmps305
     go_wp2_with (first|(go_at_call 345;refine(hnum _).mono ?_;rintro e w1 ⟨rfl,hb1⟩))
     show P (.returned (.tuple #[.int .i32 0,.bool false])) _
     rw [←hP];exact⟨0,rfl,Hr.out,hb1⟩
 have hA1:¬lead<129:=by omega
 have hA2:¬254<lead:=by omega
 by_cases hB:161≤lead∧161≤b
 · obtain⟨h1,h2⟩:=hB;have hro:=fun w=>Zqh lead b (by omega) (by omega) w;have hr:∀p,Za9 lead b p→Z2 lead b p:=by
    intro p hp;unfold Z2;by_cases h255:b=255
    · unfold Za9 at hp;rw [if_pos h255] at hp;rw [if_pos (by left;subst h255;decide)];exact hp
    · rw [if_neg,if_neg (by omega),if_neg (by omega)]
      · exact hp
      · have:0≤ZW b:=by
         unfold ZW;rw [if_neg (by omega),if_neg (by omega),if_pos (by omega)];omega
        omega
   have Hr:=Lib.hid hr;clear hr;generalize ZW b=n at*;have hge:0≤lead - 161:=by omega
   go_enter Tryz.func305,Tryz.ntmps305
   go_wp2_with (first|(go_at_call 345;refine(hnum _).mono ?_;rintro e w1 ⟨rfl,hb1⟩)|(go_at_call 346;refine(hro _ (ZdI hD hb1 (Nat.le_refl _))).mono ?_;rintro e w2 ⟨p,rfl,hp,hb2⟩))
   show P (.returned (.tuple #[.int .i32 p,.bool (p !=0)])) _
   rw [←hP];exact⟨p,rfl,Hr.out p hp,hb1.trans (hb2.mono hb1.size)⟩
 by_cases hC:ZW b<0
 · have hr:Z2 lead b 0:=by unfold Z2;rw [if_pos (by omega)]
   have Hr:=Lib.hid hr;clear hr;generalize ZW b=n at*;by_cases h1:161≤lead
   · have hge:decide (0≤lead - 161)=true:=by simp;omega
     have h2:¬161≤b:=by omega
     go_enter Tryz.func305,Tryz.ntmps305
     go_wp2_with (first|(go_at_call 345;refine(hnum _).mono ?_;rintro e w1 ⟨rfl,hb1⟩))
     show P (.returned (.tuple #[.int .i32 0,.bool false])) _
     rw [←hP];exact⟨0,rfl,Hr.out,hb1⟩
   · have hge:decide (0≤lead - 161)=false:=by simp;omega
     go_enter Tryz.func305,Tryz.ntmps305
     go_wp2_with (first|(go_at_call 345;refine(hnum _).mono ?_;rintro e w1 ⟨rfl,hb1⟩))
     show P (.returned (.tuple #[.int .i32 0,.bool false])) _
     rw [←hP];exact⟨0,rfl,Hr.out,hb1⟩
 by_cases hE:lead<161
 · have hr:∀p,ZbG ((lead - 129)*178+ZW b) false p→Z2 lead b p:=by
    intro p hp;unfold Z2;rw [if_neg (by omega),if_pos hE];exact hp
   have hex:=fun w=>Zjm ((lead - 129)*178+ZW b) (by omega) w;have Hr:=Lib.hid hr;clear hr;generalize ZW b=n at*;have hge:decide (0≤lead - 161)=false:=by simp;omega
   have hge2:decide (lead - 161<0)=true:=by simp;omega
   go_enter Tryz.func305,Tryz.ntmps305
   go_wp2_with (first|(go_at_call 345;refine(hnum _).mono ?_;rintro e w1 ⟨rfl,hb1⟩)|(go_at_call 347;refine(hex _ (ZdI hD hb1 (Nat.le_refl _))).mono ?_;rintro e w2 ⟨p,rfl,hp,hb2⟩))
   show P (.returned (.tuple #[.int .i32 p,.bool (p !=0)])) _
   rw [←hP];exact⟨p,rfl,Hr.out p hp,hb1.trans (hb2.mono hb1.size)⟩
 · have hr:∀p,ZbG (5696+(lead - 161)*84+ZW b) false p→Z2 lead b p:=by
    intro p hp;unfold Z2;rw [if_neg (by omega),if_neg hE,if_pos (by omega)];exact hp
   have hex:=fun w=>Zjm (5696+(lead - 161)*84+ZW b) (by omega) w;have Hr:=Lib.hid hr;clear hr;generalize ZW b=n at*;have hge:decide (0≤lead - 161)=true:=by simp;omega
   have hge2:decide (lead - 161<0)=false:=by simp;omega
   have h2:¬161≤b:=by omega
   go_enter Tryz.func305,Tryz.ntmps305
   go_wp2_with (first|(go_at_call 345;refine(hnum _).mono ?_;rintro e w1 ⟨rfl,hb1⟩)|(go_at_call 347;refine(hex _ (ZdI hD hb1 (Nat.le_refl _))).mono ?_;rintro e w2 ⟨p,rfl,hp,hb2⟩))
   show P (.returned (.tuple #[.int .i32 p,.bool (p !=0)])) _
   rw [←hP];exact⟨p,rfl,Hr.out p hp,hb1.trans (hb2.mono hb1.size)⟩
def inC (k:Int):Int:=(161+(k+1410) / 94)*256+(161+(k+1410) % 94)
def exC (k:Int):Int:=if k<5696 then(129+k / 178)*256+Zca (k % 178) else(161+(k - 5696) / 84)*256+Zca ((k - 5696) % 84)
def ZaA (p:Int):Int:=if 44032≤p∧p≤55203 then(if Zn (p - 44032).toNat then inC (cnt true (p - 44032).toNat) else exC (cnt false (p - 44032).toNat)) else codeW p
theorem Zg4 {n:Nat} (hn:n<11172)(h:Zn n=true):ZaA (44032+n)=inC (cnt true n):=by
 unfold ZaA;rw [if_pos (by omega),show((44032:Int)+n - 44032).toNat=n by omega,h];rfl
theorem Zg3 {n:Nat} (hn:n<11172)(h:Zn n=false):ZaA (44032+n)=exC (cnt false n):=by
 unfold ZaA;rw [if_pos (by omega),show((44032:Int)+n - 44032).toNat=n by omega,h];rfl
theorem Za8 (b fr la p:Int)(hb:0≤b∧b≤255)(hf:0≤fr∧fr≤255)(hp:0≤p∧p≤65535)(w:World):
 Calls Tryz.prog 114 #[.int .i64 b,.int .i64 fr,.int .i64 la,.int .i32 p] w fun e w'=>e= .returned (.int .i32 (Zo b fr la p))∧w=w':=by
 obtain⟨b0,b1⟩:=hb;obtain⟨f0,f1⟩:=hf;obtain⟨p0,p1⟩:=hp;by_cases h1:b<fr
 · have e:Zo b fr la p=0:=if_pos (.inl h1);rw [e];go_enter Tryz.func114,Tryz.ntmps114
   go_wp2_with fail
   go_ret
   exact⟨rfl,rfl⟩
 · by_cases h2:la<b
   · have e:Zo b fr la p=0:=if_pos (.inr h2);rw [e];go_enter Tryz.func114,Tryz.ntmps114
     go_wp2_with fail
     go_ret
     exact⟨rfl,rfl⟩
   · have e:Zo b fr la p=p+(b - fr):=if_neg (by omega);have d1:decide (b<fr)=false:=by simpa using h1
     have d2:decide (la<b)=false:=by simpa using h2
     rw [e];go_enter Tryz.func114,Tryz.ntmps114
     go_wp2_with fail
     go_ret
     exact⟨rfl,rfl⟩
def Zpd (ps:List Int)(n:Nat)(w0:World)(nv i:Value)(wr:World):Prop:=∃k j:Nat,Run ps k j∧i= .int .i64 j∧nv= .int .i64 ((n - k:Nat):Int)∧k≤n∧Below w0.heap.size w0 wr
theorem ZgI (s:ByteArray)(ps:List Int)(hg:Good s ps)(hs:s.size≤1000000)(n:Nat)(hn:n<ps.length)(hn2:n≤1000)(w:World):
 Calls Tryz.prog 109 #[.string s,.int .i64 n] w fun e w'=>e= .returned (.int .i32 (ps.getD n 0))∧Below w.heap.size w w':=by
 go_enter Tryz.func109,Tryz.ntmps109
 go_wp2_with fail
 go_loopw [1,5] (fun nv i wr=>Zpd ps n w nv i wr) (fun nv _ _=>(intOf nv).toNat)
 case atStart=>exact⟨0,0,Run.zero _,rfl,rfl,by omega,Below.refl _ _⟩
 case round=>
  obtain⟨k,j,hrun,rfl,rfl,hkn,hb⟩:=hrel;have hle:=hrun.le hg.pre;have hsz:=hb.size;obtain⟨p,m,hst,hrun',hn1,hn4,hin,_,_,_⟩:=hrun.step hg.pre (by omega);have hgp:ps.getD k 0=p:=by
   have h1:=hst.snoc (by omega);rw [ZbR (by omega)] at h1;simpa using h1
  by_cases he:k=n
  · subst he;have hval:=Lib.hid hgp;clear hgp;rw [Nat.sub_self];go_wp2_with (first|(go_at_call 16;refine(ZbH hst (by omega) (by omega) _).mono ?_;rintro e w1 ⟨rfl,hb1⟩))
    go_ret
    rw [hval.out];exact⟨rfl,hb.trans (hb1.mono hsz)⟩
  · clear hgp;generalize hq:n - k=q at*;have hq0:0<q∧q≤1000:=by omega
    obtain⟨q0,q1⟩:=hq0;have hz1:((q:Int)==0)=false:=beq_eq_false_iff_ne.2 (by omega);have hz2:((m:Int)==0)=false:=beq_eq_false_iff_ne.2 (by omega);have Hq:=Lib.hid hq;clear hq;go_wp2_with (first|(go_at_call 16;refine(ZbH hst (by omega) (by omega) _).mono ?_;rintro e w1 ⟨rfl,hb1⟩))
    go_roundw
    case rel=>exact⟨k+1,j+m,hrun',by go_num,by have:=Hq.out;rw [show((n - (k+1):Nat):Int)=(q:Int) - 1 by omega],by omega,hb.trans (hb1.mono hsz)⟩
    case measure=>simp [intOf];omega
def rtB (l:Int):ByteArray:=⟨(Zb (Zr l)).toArray⟩
theorem ZD (l:Int)(d:Array UInt8)(h:ZcF d.toList (Zb (Zr l))=true):ByteArray.mk d=rtB l:=by
 have:=Zet _ _ h;unfold rtB;rw [←this]
theorem ZtF:[161,162,166].all (fun l:Int=>(Zr l).all Ze)=true:=by decide+kernel
theorem Zf1 (l:Int)(hl:l=161∨l=162∨l=166):Good (rtB l) (Zr l):=Zdp fun p hp=>List.all_eq_true.1 (List.all_eq_true.1 ZtF l (by simp;omega)) p hp
theorem Zii (l:Int)(hl:l=161∨l=162∨l=166):(rtB l).size≤1000:=by
 have h:=(Zah (Zr l)).2;have h2:=Zlz l;rw [(Zf1 l hl).size];omega
theorem Zbm (b fr la p:Int)(hb:0≤b∧b≤255)(hf:0≤fr∧fr≤255)(hp:0≤p∧p≤20000):0≤Zo b fr la p∧Zo b fr la p≤30000:=by
 unfold Zo;split<;>omega
theorem Row161 (b:Int)(hb:161≤b∧b≤254)(w:World):
 Calls Tryz.prog 55 #[.int .i64 161,.int .i64 b] w fun e w'=>e= .returned (.int .i32 ((Zr 161).getD (b - 161).toNat 0))∧Below w.heap.size w w':=by
 have hn:=fun w=>ZgI (rtB 161) (Zr 161) (Zf1 161 (by omega)) (by have:=Zii 161 (by omega);omega) (b - 161).toNat (by have:=ZfI;show _<LA1.length;omega) (by omega) w;rw [show(((b - 161).toNat:Nat):Int)=b - 161 by omega] at hn;generalize (Zr 161).getD (b - 161).toNat 0=v at*;refine calls_of_wp Tryz.func55 rfl ?_;rw [ZD 161]
 rotate_left
 kernel_rfl
 rw [ZD 162]
 rotate_left
 kernel_rfl
 rw [ZD 166]
 rotate_left
 kernel_rfl
 generalize rtB 161=s1 at*;generalize rtB 162=s2 at*;generalize rtB 166=s6 at*;simp only [Tryz.ntmps55,List.size_toArray,List.length_cons,List.length_nil,Nat.reduceAdd,Nat.reduceSub,Array.replicate_succ,Array.replicate_zero,List.push_toArray,List.append_toArray,List.nil_append,List.cons_append];go_wp2_with (first|(go_at_call 109;refine(hn _).mono ?_;rintro e w1 ⟨rfl,hb1⟩))
 go_ret
 exact⟨rfl,hb1⟩
theorem Row162 (b:Int)(hb:161≤b∧b≤254)(hin:b - 161<71)(w:World):
 Calls Tryz.prog 55 #[.int .i64 162,.int .i64 b] w fun e w'=>e= .returned (.int .i32 ((Zr 162).getD (b - 161).toNat 0))∧Below w.heap.size w w':=by
 have hn:=fun w=>ZgI (rtB 162) (Zr 162) (Zf1 162 (by omega)) (by have:=Zii 162 (by omega);omega) (b - 161).toNat (by have:=ZfI;show _<LA2.length;omega) (by omega) w;rw [show(((b - 161).toNat:Nat):Int)=b - 161 by omega] at hn;generalize (Zr 162).getD (b - 161).toNat 0=v at*;refine calls_of_wp Tryz.func55 rfl ?_;rw [ZD 161]
 rotate_left
 kernel_rfl
 rw [ZD 162]
 rotate_left
 kernel_rfl
 rw [ZD 166]
 rotate_left
 kernel_rfl
 generalize rtB 161=s1 at*;generalize rtB 162=s2 at*;generalize rtB 166=s6 at*;simp only [Tryz.ntmps55,List.size_toArray,List.length_cons,List.length_nil,Nat.reduceAdd,Nat.reduceSub,Array.replicate_succ,Array.replicate_zero,List.push_toArray,List.append_toArray,List.nil_append,List.cons_append];have hd:decide (b - 161<71)=true:=by simpa using hin
 go_wp2_with (first|(go_at_call 109;refine(hn _).mono ?_;rintro e w1 ⟨rfl,hb1⟩))
 go_ret
 exact⟨rfl,hb1⟩
theorem Zps (b:Int)(hb:161≤b∧b≤254)(hin:¬b - 161<71)(w:World):
 Calls Tryz.prog 55 #[.int .i64 162,.int .i64 b] w fun e w'=>e= .returned (.int .i32 0)∧Below w.heap.size w w':=by
 obtain⟨b0,b1⟩:=hb;refine calls_of_wp Tryz.func55 rfl ?_;rw [ZD 161]
 rotate_left
 kernel_rfl
 rw [ZD 162]
 rotate_left
 kernel_rfl
 rw [ZD 166]
 rotate_left
 kernel_rfl
 generalize rtB 161=s1 at*;generalize rtB 162=s2 at*;generalize rtB 166=s6 at*;simp only [Tryz.ntmps55,List.size_toArray,List.length_cons,List.length_nil,Nat.reduceAdd,Nat.reduceSub,Array.replicate_succ,Array.replicate_zero,List.push_toArray,List.append_toArray,List.nil_append,List.cons_append];have hd:decide (b - 161<71)=false:=by simp;omega
 go_wp2_with fail
 go_ret
 exact⟨rfl,Below.refl _ _⟩
theorem Row166 (b:Int)(hb:161≤b∧b≤254)(hin:b - 161<68)(w:World):
 Calls Tryz.prog 55 #[.int .i64 166,.int .i64 b] w fun e w'=>e= .returned (.int .i32 ((Zr 166).getD (b - 161).toNat 0))∧Below w.heap.size w w':=by
 have hn:=fun w=>ZgI (rtB 166) (Zr 166) (Zf1 166 (by omega)) (by have:=Zii 166 (by omega);omega) (b - 161).toNat (by have:=ZfI;show _<LA6.length;omega) (by omega) w;rw [show(((b - 161).toNat:Nat):Int)=b - 161 by omega] at hn;generalize (Zr 166).getD (b - 161).toNat 0=v at*;refine calls_of_wp Tryz.func55 rfl ?_;rw [ZD 161]
 rotate_left
 kernel_rfl
 rw [ZD 162]
 rotate_left
 kernel_rfl
 rw [ZD 166]
 rotate_left
 kernel_rfl
 generalize rtB 161=s1 at*;generalize rtB 162=s2 at*;generalize rtB 166=s6 at*;simp only [Tryz.ntmps55,List.size_toArray,List.length_cons,List.length_nil,Nat.reduceAdd,Nat.reduceSub,Array.replicate_succ,Array.replicate_zero,List.push_toArray,List.append_toArray,List.nil_append,List.cons_append];have hd:decide (b - 161<68)=true:=by simpa using hin
 go_wp2_with (first|(go_at_call 109;refine(hn _).mono ?_;rintro e w1 ⟨rfl,hb1⟩))
 go_ret
 exact⟨rfl,hb1⟩
theorem Zpt (b:Int)(hb:161≤b∧b≤254)(hin:¬b - 161<68)(w:World):
 Calls Tryz.prog 55 #[.int .i64 166,.int .i64 b] w fun e w'=>e= .returned (.int .i32 0)∧Below w.heap.size w w':=by
 obtain⟨b0,b1⟩:=hb;refine calls_of_wp Tryz.func55 rfl ?_;rw [ZD 161]
 rotate_left
 kernel_rfl
 rw [ZD 162]
 rotate_left
 kernel_rfl
 rw [ZD 166]
 rotate_left
 kernel_rfl
 generalize rtB 161=s1 at*;generalize rtB 162=s2 at*;generalize rtB 166=s6 at*;simp only [Tryz.ntmps55,List.size_toArray,List.length_cons,List.length_nil,Nat.reduceAdd,Nat.reduceSub,Array.replicate_succ,Array.replicate_zero,List.push_toArray,List.append_toArray,List.nil_append,List.cons_append];have hd:decide (b - 161<68)=false:=by simp;omega
 go_wp2_with fail
 go_ret
 exact⟨rfl,Below.refl _ _⟩
theorem Row163 (b:Int)(hb:161≤b∧b≤254)(w:World):
 Calls Tryz.prog 55 #[.int .i64 163,.int .i64 b] w fun e w'=>e= .returned (.int .i32 (if b=220 then 65510 else if b=254 then 65507 else 65281+b - 161))∧Below w.heap.size w w':=by
 obtain⟨b0,b1⟩:=hb;refine calls_of_wp Tryz.func55 rfl ?_;rw [ZD 161]
 rotate_left
 kernel_rfl
 rw [ZD 162]
 rotate_left
 kernel_rfl
 rw [ZD 166]
 rotate_left
 kernel_rfl
 generalize rtB 161=s1 at*;generalize rtB 162=s2 at*;generalize rtB 166=s6 at*;simp only [Tryz.ntmps55,List.size_toArray,List.length_cons,List.length_nil,Nat.reduceAdd,Nat.reduceSub,Array.replicate_succ,Array.replicate_zero,List.push_toArray,List.append_toArray,List.nil_append,List.cons_append];by_cases h1:b=220
 · subst h1;go_wp2_with fail
   go_ret
   exact⟨rfl,Below.refl _ _⟩
 rw [if_neg h1];have e1:(b==220)=false:=by simpa using h1
 by_cases h2:b=254
 · subst h2;go_wp2_with fail
   go_ret
   exact⟨rfl,Below.refl _ _⟩
 rw [if_neg h2];have e2:(b==254)=false:=by simpa using h2
 go_wp2_with fail
 go_ret
 exact⟨rfl,Below.refl _ _⟩
theorem Row164 (b:Int)(hb:161≤b∧b≤254)(w:World):
 Calls Tryz.prog 55 #[.int .i64 164,.int .i64 b] w fun e w'=>e= .returned (.int .i32 (12593+b - 161))∧Below w.heap.size w w':=by
 obtain⟨b0,b1⟩:=hb;refine calls_of_wp Tryz.func55 rfl ?_;rw [ZD 161]
 rotate_left
 kernel_rfl
 rw [ZD 162]
 rotate_left
 kernel_rfl
 rw [ZD 166]
 rotate_left
 kernel_rfl
 generalize rtB 161=s1 at*;generalize rtB 162=s2 at*;generalize rtB 166=s6 at*;simp only [Tryz.ntmps55,List.size_toArray,List.length_cons,List.length_nil,Nat.reduceAdd,Nat.reduceSub,Array.replicate_succ,Array.replicate_zero,List.push_toArray,List.append_toArray,List.nil_append,List.cons_append];go_wp2_with fail
 go_ret
 exact⟨rfl,Below.refl _ _⟩
theorem Row165 (b:Int)(hb:161≤b∧b≤254)(w:World):
 Calls Tryz.prog 55 #[.int .i64 165,.int .i64 b] w fun e w'=>e= .returned (.int .i32 (Zo b 161 170 8560+Zo b 176 185 8544+Zo b 193 209 913+Zo b 210 216 931+Zo b 225 241 945+Zo b 242 248 963))∧Below w.heap.size w w':=by
 have h0:=fun w=>Za8 b 161 170 8560 (by omega) (by omega) (by omega) w;obtain⟨l0,u0⟩:=Zbm b 161 170 8560 (by omega) (by omega) (by omega);have h1:=fun w=>Za8 b 176 185 8544 (by omega) (by omega) (by omega) w;obtain⟨l1,u1⟩:=Zbm b 176 185 8544 (by omega) (by omega) (by omega);have h2:=fun w=>Za8 b 193 209 913 (by omega) (by omega) (by omega) w;obtain⟨l2,u2⟩:=Zbm b 193 209 913 (by omega) (by omega) (by omega);have h3:=fun w=>Za8 b 210 216 931 (by omega) (by omega) (by omega) w;obtain⟨l3,u3⟩:=Zbm b 210 216 931 (by omega) (by omega) (by omega);have h4:=fun w=>Za8 b 225 241 945 (by omega) (by omega) (by omega) w;obtain⟨l4,u4⟩:=Zbm b 225 241 945 (by omega) (by omega) (by omega);have h5:=fun w=>Za8 b 242 248 963 (by omega) (by omega) (by omega) w;obtain⟨l5,u5⟩:=Zbm b 242 248 963 (by omega) (by omega) (by omega);generalize Zo b 161 170 8560=x0 at*;generalize Zo b 176 185 8544=x1 at*;generalize Zo b 193 209 913=x2 at*;generalize Zo b 210 216 931=x3 at*;generalize Zo b 225 241 945=x4 at*;generalize Zo b 242 248 963=x5 at*;refine calls_of_wp Tryz.func55 rfl ?_;rw [ZD 161]
 rotate_left
 kernel_rfl
 rw [ZD 162]
 rotate_left
 kernel_rfl
 rw [ZD 166]
 rotate_left
 kernel_rfl
 generalize rtB 161=s1 at*;generalize rtB 162=s2 at*;generalize rtB 166=s6 at*;simp only [Tryz.ntmps55,List.size_toArray,List.length_cons,List.length_nil,Nat.reduceAdd,Nat.reduceSub,Array.replicate_succ,Array.replicate_zero,List.push_toArray,List.append_toArray,List.nil_append,List.cons_append];go_wp2_with (first|(go_at_call 114;first|((with_reducible refine(h0 _).mono ?_);rintro e w1 ⟨rfl,rfl⟩;clear h0)|((with_reducible refine(h1 _).mono ?_);rintro e w1 ⟨rfl,rfl⟩;clear h1)|((with_reducible refine(h2 _).mono ?_);rintro e w1 ⟨rfl,rfl⟩;clear h2)|((with_reducible refine(h3 _).mono ?_);rintro e w1 ⟨rfl,rfl⟩;clear h3)|((with_reducible refine(h4 _).mono ?_);rintro e w1 ⟨rfl,rfl⟩;clear h4)|((with_reducible refine(h5 _).mono ?_);rintro e w1 ⟨rfl,rfl⟩;clear h5)))
 go_ret
 exact⟨rfl,Below.refl _ _⟩
theorem Row170 (b:Int)(hb:161≤b∧b≤254)(w:World):
 Calls Tryz.prog 55 #[.int .i64 170,.int .i64 b] w fun e w'=>e= .returned (.int .i32 (Zo b 161 243 12353))∧Below w.heap.size w w':=by
 have h0:=fun w=>Za8 b 161 243 12353 (by omega) (by omega) (by omega) w;obtain⟨l0,u0⟩:=Zbm b 161 243 12353 (by omega) (by omega) (by omega);generalize Zo b 161 243 12353=x0 at*;refine calls_of_wp Tryz.func55 rfl ?_;rw [ZD 161]
 rotate_left
 kernel_rfl
 rw [ZD 162]
 rotate_left
 kernel_rfl
 rw [ZD 166]
 rotate_left
 kernel_rfl
 generalize rtB 161=s1 at*;generalize rtB 162=s2 at*;generalize rtB 166=s6 at*;simp only [Tryz.ntmps55,List.size_toArray,List.length_cons,List.length_nil,Nat.reduceAdd,Nat.reduceSub,Array.replicate_succ,Array.replicate_zero,List.push_toArray,List.append_toArray,List.nil_append,List.cons_append];go_wp2_with (first|(go_at_call 114;first|((with_reducible refine(h0 _).mono ?_);rintro e w1 ⟨rfl,rfl⟩;clear h0)))
 go_ret
 exact⟨rfl,Below.refl _ _⟩
theorem Row171 (b:Int)(hb:161≤b∧b≤254)(w:World):
 Calls Tryz.prog 55 #[.int .i64 171,.int .i64 b] w fun e w'=>e= .returned (.int .i32 (Zo b 161 246 12449))∧Below w.heap.size w w':=by
 have h0:=fun w=>Za8 b 161 246 12449 (by omega) (by omega) (by omega) w;obtain⟨l0,u0⟩:=Zbm b 161 246 12449 (by omega) (by omega) (by omega);generalize Zo b 161 246 12449=x0 at*;refine calls_of_wp Tryz.func55 rfl ?_;rw [ZD 161]
 rotate_left
 kernel_rfl
 rw [ZD 162]
 rotate_left
 kernel_rfl
 rw [ZD 166]
 rotate_left
 kernel_rfl
 generalize rtB 161=s1 at*;generalize rtB 162=s2 at*;generalize rtB 166=s6 at*;simp only [Tryz.ntmps55,List.size_toArray,List.length_cons,List.length_nil,Nat.reduceAdd,Nat.reduceSub,Array.replicate_succ,Array.replicate_zero,List.push_toArray,List.append_toArray,List.nil_append,List.cons_append];go_wp2_with (first|(go_at_call 114;first|((with_reducible refine(h0 _).mono ?_);rintro e w1 ⟨rfl,rfl⟩;clear h0)))
 go_ret
 exact⟨rfl,Below.refl _ _⟩
theorem Row172 (b:Int)(hb:161≤b∧b≤254)(w:World):
 Calls Tryz.prog 55 #[.int .i64 172,.int .i64 b] w fun e w'=>e= .returned (.int .i32 (Zo b 161 166 1040+Zo b 167 167 1025+Zo b 168 193 1046+Zo b 209 214 1072+Zo b 215 215 1105+Zo b 216 241 1078))∧Below w.heap.size w w':=by
 have h0:=fun w=>Za8 b 161 166 1040 (by omega) (by omega) (by omega) w;obtain⟨l0,u0⟩:=Zbm b 161 166 1040 (by omega) (by omega) (by omega);have h1:=fun w=>Za8 b 167 167 1025 (by omega) (by omega) (by omega) w;obtain⟨l1,u1⟩:=Zbm b 167 167 1025 (by omega) (by omega) (by omega);have h2:=fun w=>Za8 b 168 193 1046 (by omega) (by omega) (by omega) w;obtain⟨l2,u2⟩:=Zbm b 168 193 1046 (by omega) (by omega) (by omega);have h3:=fun w=>Za8 b 209 214 1072 (by omega) (by omega) (by omega) w;obtain⟨l3,u3⟩:=Zbm b 209 214 1072 (by omega) (by omega) (by omega);have h4:=fun w=>Za8 b 215 215 1105 (by omega) (by omega) (by omega) w;obtain⟨l4,u4⟩:=Zbm b 215 215 1105 (by omega) (by omega) (by omega);have h5:=fun w=>Za8 b 216 241 1078 (by omega) (by omega) (by omega) w;obtain⟨l5,u5⟩:=Zbm b 216 241 1078 (by omega) (by omega) (by omega);generalize Zo b 161 166 1040=x0 at*;generalize Zo b 167 167 1025=x1 at*;generalize Zo b 168 193 1046=x2 at*;generalize Zo b 209 214 1072=x3 at*;generalize Zo b 215 215 1105=x4 at*;generalize Zo b 216 241 1078=x5 at*;refine calls_of_wp Tryz.func55 rfl ?_;rw [ZD 161]
 rotate_left
 kernel_rfl
 rw [ZD 162]
 rotate_left
 kernel_rfl
 rw [ZD 166]
 rotate_left
 kernel_rfl
 generalize rtB 161=s1 at*;generalize rtB 162=s2 at*;generalize rtB 166=s6 at*;simp only [Tryz.ntmps55,List.size_toArray,List.length_cons,List.length_nil,Nat.reduceAdd,Nat.reduceSub,Array.replicate_succ,Array.replicate_zero,List.push_toArray,List.append_toArray,List.nil_append,List.cons_append];go_wp2_with (first|(go_at_call 114;first|((with_reducible refine(h0 _).mono ?_);rintro e w1 ⟨rfl,rfl⟩;clear h0)|((with_reducible refine(h1 _).mono ?_);rintro e w1 ⟨rfl,rfl⟩;clear h1)|((with_reducible refine(h2 _).mono ?_);rintro e w1 ⟨rfl,rfl⟩;clear h2)|((with_reducible refine(h3 _).mono ?_);rintro e w1 ⟨rfl,rfl⟩;clear h3)|((with_reducible refine(h4 _).mono ?_);rintro e w1 ⟨rfl,rfl⟩;clear h4)|((with_reducible refine(h5 _).mono ?_);rintro e w1 ⟨rfl,rfl⟩;clear h5)))
 go_ret
 exact⟨rfl,Below.refl _ _⟩
theorem Row_no (b:Int)(hb:161≤b∧b≤254)(lead:Int)(hl:lead≠161∧lead≠162∧lead≠163∧lead≠164∧lead≠165∧lead≠166∧lead≠170∧lead≠171∧lead≠172)(w:World):
 Calls Tryz.prog 55 #[.int .i64 lead,.int .i64 b] w fun e w'=>e= .returned (.int .i32 0)∧Below w.heap.size w w':=by
 obtain⟨b0,b1⟩:=hb;have e161:(lead==161)=false:=by simp;omega
 have e162:(lead==162)=false:=by simp;omega
 have e163:(lead==163)=false:=by simp;omega
 have e164:(lead==164)=false:=by simp;omega
 have e165:(lead==165)=false:=by simp;omega
 have e166:(lead==166)=false:=by simp;omega
 have e170:(lead==170)=false:=by simp;omega
 have e171:(lead==171)=false:=by simp;omega
 have e172:(lead==172)=false:=by simp;omega
 refine calls_of_wp Tryz.func55 rfl ?_;rw [ZD 161]
 rotate_left
 kernel_rfl
 rw [ZD 162]
 rotate_left
 kernel_rfl
 rw [ZD 166]
 rotate_left
 kernel_rfl
 generalize rtB 161=s1 at*;generalize rtB 162=s2 at*;generalize rtB 166=s6 at*;simp only [Tryz.ntmps55,List.size_toArray,List.length_cons,List.length_nil,Nat.reduceAdd,Nat.reduceSub,Array.replicate_succ,Array.replicate_zero,List.push_toArray,List.append_toArray,List.nil_append,List.cons_append];go_wp2_with fail
 go_ret
 exact⟨rfl,Below.refl _ _⟩
theorem Zpg (lead b:Int)(hb:161≤b∧b≤254)(w:World):
 Calls Tryz.prog 55 #[.int .i64 lead,.int .i64 b] w fun e w'=>e= .returned (.int .i32 (Zb3 lead b))∧Below w.heap.size w w':=by
 unfold Zb3;by_cases h161:lead=161
 · rw [if_pos h161];subst h161;exact Row161 b hb w
 rw [if_neg h161];by_cases h162:lead=162
 · rw [if_pos h162];subst h162;by_cases hin:b - 161<71
   · rw [if_pos hin];exact Row162 b hb hin w
   · rw [if_neg hin];exact Zps b hb hin w
 rw [if_neg h162];by_cases h163:lead=163
 · rw [if_pos h163];subst h163;exact Row163 b hb w
 rw [if_neg h163];by_cases h164:lead=164
 · rw [if_pos h164];subst h164;exact Row164 b hb w
 rw [if_neg h164];by_cases h165:lead=165
 · rw [if_pos h165];subst h165;exact Row165 b hb w
 rw [if_neg h165];by_cases h166:lead=166
 · rw [if_pos h166];subst h166;by_cases hin:b - 161<68
   · rw [if_pos hin];exact Row166 b hb hin w
   · rw [if_neg hin];exact Zpt b hb hin w
 rw [if_neg h166];by_cases h170:lead=170
 · rw [if_pos h170];subst h170;exact Row170 b hb w
 rw [if_neg h170];by_cases h171:lead=171
 · rw [if_pos h171];subst h171;exact Row171 b hb w
 rw [if_neg h171];by_cases h172:lead=172
 · rw [if_pos h172];subst h172;exact Row172 b hb w
 rw [if_neg h172];exact Row_no b hb lead ⟨h161,h162,h163,h164,h165,h166,h170,h171,h172⟩ w
end Go.Proofs.YtlfinljfghhpdaaGreatDoor
