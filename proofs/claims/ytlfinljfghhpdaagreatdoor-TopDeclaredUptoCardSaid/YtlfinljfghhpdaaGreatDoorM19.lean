/- Lemmas for a statement on the tops; conditions: as each says. -/
import Derived.Deep.RegionHeld3
import Derived.Maps.OwnOps
import Derived.Maps.OwnSet
import Derived.Maps.Views
import Derived.DeepKeys4
import Derived.Test.YtlfinljfghhpdaaGreatDoorM4
import Derived.Test.YtlfinljfghhpdaaGreatDoorM18
set_option linter.unusedVariables false
set_option linter.unusedSimpArgs false
set_option maxRecDepth 100000
set_option maxHeartbeats 4000000
namespace Go.Proofs.YtlfinljfghhpdaaGreatDoor
open Go Go.RowKit
theorem At_out (s:ByteArray)(ps:List Int)(h:Hex s ps)(k:Int)(hk:k<0∨ps.length≤k)(hs:s.size≤100000)(hkb: -100000≤k∧k≤100000)(w:World):
 Calls Tryz.prog 387 #[.string s,.int .i64 k] w fun e w'=>e= .returned (.tuple #[.int .i32 0,.bool false])∧Below w.heap.size w w':=by
 have hsz:=h.size;have hdiv:(s.size:Int) / 5=ps.length:=by omega
 by_cases h0:k<0
 · go_enter Tryz.func387,Tryz.ntmps387
   go_wp2_with fail
   go_ret2
   exact⟨rfl,Below.refl _ _⟩
 · have h1:(s.size:Int) / 5≤k:=by omega
   clear hdiv;go_enter Tryz.func387,Tryz.ntmps387
   go_wp2_with fail
   go_ret2
   exact⟨rfl,Below.refl _ _⟩
theorem At_in (s:ByteArray)(ps:List Int)(h:Hex s ps)(k:Nat)(hk:k<ps.length)(hs:s.size≤100000)(w:World):
 Calls Tryz.prog 387 #[.string s,.int .i64 k] w fun e w'=>e= .returned (.tuple #[.int .i32 (ps.getD k 0),.bool true])∧Below w.heap.size w w':=by
 have hsz:=h.size;have hp:=h.2 _ (Zdo hk);have d0:=h.digit (j:=0) (m:=5*k) rfl hk (by omega) (by omega);have d1:=h.digit (j:=1) (m:=5*k) rfl hk (by omega) (by omega);have d2:=h.digit (j:=2) (m:=5*k) rfl hk (by omega) (by omega);have d3:=h.digit (j:=3) (m:=5*k) rfl hk (by omega) (by omega);generalize ps.getD k 0=p at*;obtain⟨q0,q1,q2,q3⟩:=Zke hp;simp [Zbv] at d0 d1 d2 d3;have D0:=fun w=>Ze2 (p / 4096) s[5*k] q0 d0.symm w;have D1:=fun w=>Ze2 (p / 256 % 16) s[5*k+1] q1 d1.symm w;have D2:=fun w=>Ze2 (p / 16 % 16) s[5*k+2] q2 d2.symm w;have D3:=fun w=>Ze2 (p % 16) s[5*k+3] q3 d3.symm w;obtain⟨q00,q01⟩:=q0;obtain⟨q10,q11⟩:=q1;obtain⟨q20,q21⟩:=q2;obtain⟨q30,q31⟩:=q3;have hge:¬(s.size:Int) / 5≤k:=by omega
 have hm':(k:Int)*5=5*(k:Int):=by omega
 have hmb:5*k+3<s.size:=by omega
 have hA1:(5*(k:Int)+1).toNat=5*k+1:=by omega
 have hA2:(5*(k:Int)+1+1).toNat=5*k+2:=by omega
 have hA3:(5*(k:Int)+1+1+1).toNat=5*k+3:=by omega
 clear d0 d1 d2 d3 h;go_enter Tryz.func387,Tryz.ntmps387
 go_wp2_with fail
 refine wp_loop_rounds 5 ?_;rw [rounds_succ];go_wp2_with (first|(go_at_call 290;first|(refine(D0 _).mono ?_;clear D0;rintro e w' ⟨rfl,rfl⟩)|(refine(D1 _).mono ?_;clear D1;rintro e w' ⟨rfl,rfl⟩)|(refine(D2 _).mono ?_;clear D2;rintro e w' ⟨rfl,rfl⟩)|(refine(D3 _).mono ?_;clear D3;rintro e w' ⟨rfl,rfl⟩)))
 rw [rounds_succ];go_wp2_with (first|(go_at_call 290;first|(refine(D0 _).mono ?_;clear D0;rintro e w' ⟨rfl,rfl⟩)|(refine(D1 _).mono ?_;clear D1;rintro e w' ⟨rfl,rfl⟩)|(refine(D2 _).mono ?_;clear D2;rintro e w' ⟨rfl,rfl⟩)|(refine(D3 _).mono ?_;clear D3;rintro e w' ⟨rfl,rfl⟩)))
 rw [rounds_succ];go_wp2_with (first|(go_at_call 290;first|(refine(D0 _).mono ?_;clear D0;rintro e w' ⟨rfl,rfl⟩)|(refine(D1 _).mono ?_;clear D1;rintro e w' ⟨rfl,rfl⟩)|(refine(D2 _).mono ?_;clear D2;rintro e w' ⟨rfl,rfl⟩)|(refine(D3 _).mono ?_;clear D3;rintro e w' ⟨rfl,rfl⟩)))
 rw [rounds_succ];go_wp2_with (first|(go_at_call 290;first|(refine(D0 _).mono ?_;clear D0;rintro e w' ⟨rfl,rfl⟩)|(refine(D1 _).mono ?_;clear D1;rintro e w' ⟨rfl,rfl⟩)|(refine(D2 _).mono ?_;clear D2;rintro e w' ⟨rfl,rfl⟩)|(refine(D3 _).mono ?_;clear D3;rintro e w' ⟨rfl,rfl⟩)))
 rw [rounds_succ];go_wp2_with fail
 go_ret2
 refine⟨?_,Below.refl _ _⟩;have e:∀x:Int,x=p→Ending.returned (.tuple #[.int .i32 x,.bool true])= .returned (.tuple #[.int .i32 p,.bool true]):=fun x hx=>by rw [hx]
 refine e _ ?_;have f1:wrap32 ((p / 4096*16+p / 256 % 16)*16)=p / 256*16:=by unfold wrap32;omega
 have f2:wrap32 ((p / 256*16+p / 16 % 16)*16)=p / 16*16:=by unfold wrap32;omega
 rw [ZhA (by omega) (by omega) (by omega) (by omega),f1,ZhA (by omega) (by omega) (by omega) (by omega),f2,ZhA (by omega) (by omega) (by omega) (by omega)];omega
def sB (n:Nat):ByteArray:=⟨(Zcf (SP.getD n (0,0,[])).2.2).toArray⟩
theorem lit (n:Nat)(d:Array UInt8)(h:Zcg d.toList (SP.getD n (0,0,[])).2.2=true):ByteArray.mk d=sB n:=by
 have:=Zli _ _ h;unfold sB;rw [←this]
def TW:List (Int×Int×Int):=[(98,202,772),(100,202,780),(163,234,772),(165,234,780)]
def Zgg:Value:= .agg #[.int .i64 98,.int .i32 202,.int .i32 772,.int .i64 100,.int .i32 202,.int .i32 780,.int .i64 163,.int .i32 234,.int .i32 772,.int .i64 165,.int .i32 234,.int .i32 780]
def Zis:Value:= .agg #[.int .i64 136,.int .i64 86,.string (sB 0),.int .i64 136,.int .i64 99,.string (sB 1),.int .i64 136,.int .i64 101,.string (sB 2),.int .i64 136,.int .i64 117,.string (sB 3),.int .i64 136,.int .i64 161,.string (sB 4),.int .i64 136,.int .i64 164,.string (sB 5),.int .i64 136,.int .i64 166,.string (sB 6),.int .i64 161,.int .i64 64,.string (sB 7),.int .i64 163,.int .i64 64,.string (sB 8),.int .i64 164,.int .i64 64,.string (sB 9),.int .i64 165,.int .i64 64,.string (sB 10)]
def ZcW (n:Nat):Int:=(SP.getD n (0,0,[])).1
def Zbj (n:Nat):Int:=(SP.getD n (0,0,[])).2.1
def Zbf (n:Nat):List Int:=(SP.getD n (0,0,[])).2.2
theorem Zqa (w:World):Calls Tryz.prog 354 #[] w fun e w'=>e= .returned Zgg∧Below w.heap.size w w':=by
 go_enter Tryz.func354,Tryz.ntmps354
 go_wp2_with fail
 refine bodyPost_ret (v:=Zgg) (by simp [results,Tryz.results354,go_sem,Zgg]) rfl ⟨rfl,(Below.refl _ w).alloc (Nat.le_refl _) _⟩
theorem ZlP {ops:Array Oper} {rest:List Oper} {o:Oper} {a:Act} {w:World} {Q:Exit→Act→World→Prop} (hg:o.guard=none)(t:TypeId)(parts:Array (Nat×Operand))(v:Array Value)(ho:o.op= .build t parts)
 (hf:Tryz.prog.built t (parts.map fun(i,x)=>(i,a.eval x)).toList=some v)
 (h:wpList Tryz.prog ops Q rest (a.put o.dst (.agg v)) w):wpList Tryz.prog ops Q (o::rest) a w:=
 wpList_build hg t parts ho (by rw [hf];rfl) (by rw [hf];exact h)
theorem ZpY (w:World):Calls Tryz.prog 373 #[] w fun e w'=>e= .returned Zis∧Below w.heap.size w w':=by
 refine calls_of_wp Tryz.func373 rfl ?_;rw [lit 0]
 rotate_left
 kernel_rfl
 rw [lit 1]
 rotate_left
 kernel_rfl
 rw [lit 2]
 rotate_left
 kernel_rfl
 rw [lit 3]
 rotate_left
 kernel_rfl
 rw [lit 4]
 rotate_left
 kernel_rfl
 rw [lit 5]
 rotate_left
 kernel_rfl
 rw [lit 6]
 rotate_left
 kernel_rfl
 rw [lit 7]
 rotate_left
 kernel_rfl
 rw [lit 8]
 rotate_left
 kernel_rfl
 rw [lit 9]
 rotate_left
 kernel_rfl
 rw [lit 10]
 rotate_left
 kernel_rfl
 unfold Zis;generalize sB 0=s0;generalize sB 1=s1;generalize sB 2=s2;generalize sB 3=s3;generalize sB 4=s4;generalize sB 5=s5;generalize sB 6=s6;generalize sB 7=s7;generalize sB 8=s8;generalize sB 9=s9;generalize sB 10=s10;simp only [Tryz.ntmps373,List.size_toArray,List.length_nil,Nat.reduceSub,Array.replicate_succ,Array.replicate_zero,List.push_toArray,List.append_toArray,List.nil_append,List.cons_append];go_wp2_with (first|(refine ZlP rfl 382 _ #[.int .i64 136,.int .i64 86,.string s0,.int .i64 136,.int .i64 99,.string s1,.int .i64 136,.int .i64 101,.string s2,.int .i64 136,.int .i64 117,.string s3,.int .i64 136,.int .i64 161,.string s4,.int .i64 136,.int .i64 164,.string s5,.int .i64 136,.int .i64 166,.string s6,.int .i64 161,.int .i64 64,.string s7,.int .i64 163,.int .i64 64,.string s8,.int .i64 164,.int .i64 64,.string s9,.int .i64 165,.int .i64 64,.string s10] rfl (by kernel_rfl) ?_)|(refine wpList_store_row rfl 382 _ _ rfl w.heap.size #[.int .i64 136,.int .i64 86,.string s0,.int .i64 136,.int .i64 99,.string s1,.int .i64 136,.int .i64 101,.string s2,.int .i64 136,.int .i64 117,.string s3,.int .i64 136,.int .i64 161,.string s4,.int .i64 136,.int .i64 164,.string s5,.int .i64 136,.int .i64 166,.string s6,.int .i64 161,.int .i64 64,.string s7,.int .i64 163,.int .i64 64,.string s8,.int .i64 164,.int .i64 64,.string s9,.int .i64 165,.int .i64 64,.string s10] rfl rfl _ _ (heap_alloc_new w _) (by kernel_rfl) (by rfl) (by simp [Value.oneCell']) ?_;rw [World.setRow_alloc_new]))
 refine bodyPost_ret (results_cell_row rfl _ _ w.heap.size _ _ _ _ rfl (heap_alloc_new w _) Tryz.underlying382 rfl (by kernel_rfl)) rfl ⟨rfl,(Below.refl _ w).alloc (Nat.le_refl _) _⟩
theorem lt11 {k:Nat} (h:k<11):k=0∨k=1∨k=2∨k=3∨k=4∨k=5∨k=6∨k=7∨k=8∨k=9∨k=10:=by omega
theorem idx11 {k:Nat} (hk:k<11)(w:World):(Instr.index 382 Zis (.int .i64 k)).run Tryz.prog w= .ok (.agg #[.int .i64 (ZcW k),.int .i64 (Zbj k),.string (sB k)]) w:=by
 rcases lt11 hk with rfl|rfl|rfl|rfl|rfl|rfl|rfl|rfl|rfl|rfl|rfl
 all_goals kernel_rfl
theorem idx4 {k:Nat} (hk:k<4)(w:World):(Instr.index 366 Zgg (.int .i64 k)).run Tryz.prog w= .ok (.agg #[.int .i64 (TW.getD k (0,0,0)).1,.int .i32 (TW.getD k (0,0,0)).2.1,.int .i32 (TW.getD k (0,0,0)).2.2]) w:=by
 have h4:k=0∨k=1∨k=2∨k=3:=by omega
 rcases h4 with rfl|rfl|rfl|rfl
 all_goals rfl
def ZpW (V:Value):Prop:=∀k:Nat,k<11→∀w,(Instr.index 382 V (.int .i64 k)).run Tryz.prog w= .ok (.agg #[.int .i64 (ZcW k),.int .i64 (Zbj k),.string (sB k)]) w
def TwosOf (V:Value):Prop:=∀k:Nat,k<4→∀w,(Instr.index 366 V (.int .i64 k)).run Tryz.prog w= .ok (.agg #[.int .i64 (TW.getD k (0,0,0)).1,.int .i32 (TW.getD k (0,0,0)).2.1,.int .i32 (TW.getD k (0,0,0)).2.2]) w
theorem ZpX (w:World):Calls Tryz.prog 373 #[] w fun e w'=>∃V,e= .returned V∧ZpW V∧Below w.heap.size w w':=
 (ZpY w).mono fun _ _ h=>⟨_,h.1,fun _ hk w=>idx11 hk w,h.2⟩
theorem Zp9 (w:World):Calls Tryz.prog 354 #[] w fun e w'=>∃V,e= .returned V∧TwosOf V∧Below w.heap.size w w':=
 (Zqa w).mono fun _ _ h=>⟨_,h.1,fun _ hk w=>idx4 hk w,h.2⟩
theorem ZnS (s:ByteArray)(ps:List Int)(h:Hex s ps)(k:Int)(hs:s.size≤100000)(hkb: -100000≤k∧k≤100000)(w:World):
 Calls Tryz.prog 387 #[.string s,.int .i64 k] w fun e w'=>e= .returned (.tuple #[.int .i32 (if 0≤k∧k<ps.length then ps.getD k.toNat 0 else 0),.bool (decide (0≤k∧k<ps.length))])∧Below w.heap.size w w':=by
 by_cases hk:0≤k∧k<ps.length
 · have:=At_in s ps h k.toNat (by omega) hs w;have e:((k.toNat:Nat):Int)=k:=by omega
   rw [e] at this;simp only [hk,and_self,if_true,decide_true];exact this
 · have:=At_out s ps h k (by omega) hs hkb w;simp only [if_neg hk,decide_eq_false hk];exact this
theorem Cell_b (b:Int)(hb: -1000≤b∧b≤1000)(w:World):
 Calls Tryz.prog 376 #[.int .i64 b] w fun e w'=>e= .returned (.int .i64 (Zz b))∧Below w.heap.size w w':=
 (Zgq b hb w).mono fun e w' h=>⟨h.1,by rw [←h.2];exact Below.refl _ _⟩
theorem len11:∀k,k<11→(Zbf k).length≤157∧0≤ZcW k∧ZcW k≤255∧64≤Zbj k∧Zbj k≤254∧0≤Zz (Zbj k)∧Zz (Zbj k)+(Zbf k).length≤157:=by decide+kernel
theorem mem11 {k:Nat} (h:k<11):SP.getD k (0,0,[])∈SP:=by
 rw [List.getD_eq_getElem?_getD,List.getElem?_eq_getElem (by simpa [SP] using h)];simp
theorem drop11 {k:Nat} (h:k<11):SP.drop k=(ZcW k,Zbj k,Zbf k)::SP.drop (k+1):=by
 have hl:k<SP.length:=by simpa [SP] using h
 rw [List.drop_eq_getElem_cons hl];simp only [ZcW,Zbj,Zbf,List.getD_eq_getElem?_getD,List.getElem?_eq_getElem hl,Option.getD_some]
theorem hex11 {k:Nat} (h:k<11):Hex (sB k) (Zbf k)∧(sB k).size≤100000:=by
 have hx:Hex (sB k) (Zbf k):=⟨by simp [sB,Zbf],fun p hp=>by have:=Zir (mem11 h) p hp;omega⟩
 refine⟨hx,?_⟩;have:=(len11 k h).1;rw [hx.size];omega
theorem ZtT {k:Nat} (h:k<11){j:Nat} (hj:j<(Zbf k).length):128<(Zbf k).getD j 0∧(Zbf k).getD j 0≤65535:=by
 have:=Zir (mem11 h) _ (Zla hj);exact⟨this.1,this.2.1⟩
theorem ZsL {k:Nat} (h:k<11)(lead c:Int):ZT (SP.drop k) lead c=if ZcW k=lead∧0≤c - Zz (Zbj k)∧c - Zz (Zbj k)<(Zbf k).length then(Zbf k).getD (c - Zz (Zbj k)).toNat 0 else ZT (SP.drop (k+1)) lead c:=by
 rw [drop11 h];rfl
def ZM (lead b:Int):Int:=if Zz b<0 then 0 else ZT SP lead (Zz b)
theorem ZsJ (lead c:Int):ZT (SP.drop 11) lead c=0:=rfl
theorem ZC {w' w'':World} {a:Addr} {v:Value} (h:w'.cell? a=some v)(hb:Below w'.heap.size w' w''):w''.cell? a=some v:=by
 rw [hb.cell (World.block_lt_of_cell? _ _ h),h]
theorem Zj9 {W w' w'':World} {a0 a1:Addr} {v0 v1:Value} (h:w'.cell? a0=some v0∧w'.cell? a1=some v1∧Below W.heap.size W w')(hb:Below w'.heap.size w' w''):
 w''.cell? a0=some v0∧w''.cell? a1=some v1∧Below W.heap.size W w'':=
 ⟨ZC h.1 hb,ZC h.2.1 hb,h.2.2.trans (hb.mono h.2.2.size)⟩
theorem box3 (w:World)(T:TypeId)(a b c:Value):(w.alloc (.cells #[a,b,c] T)).cell? ⟨w.heap.size,0,none⟩=some a∧(w.alloc (.cells #[a,b,c] T)).cell? ⟨w.heap.size,1,none⟩=some b∧(w.alloc (.cells #[a,b,c] T)).cell? ⟨w.heap.size,2,none⟩=some c:=by
 have hc:=fun j=>cell_of_row (w.alloc (.cells #[a,b,c] T)) w.heap.size j _ T (0,0) (heap_alloc_new w _);rw [hc 0,hc 1,hc 2];exact⟨rfl,rfl,rfl⟩
def OneRel (lead c:Int)(w0:World)(i:Value)(wr:World):Prop:=∃k:Nat,k≤11∧i= .int .i64 k∧ZT SP lead c=ZT (SP.drop k) lead c∧Below w0.heap.size w0 wr
theorem Zjw (lead b:Int)(hl:0≤lead∧lead≤255)(hb:0≤b∧b≤255)(w:World):
 Calls Tryz.prog 353 #[.int .i64 lead,.int .i64 b] w fun e w'=>e= .returned (.tuple #[.int .i32 (ZM lead b),.bool (decide (ZM lead b≠0))])∧Below w.heap.size w w':=by
 have hc:=ZgW b;by_cases h0:Zz b<0
 · have e:ZM lead b=0:=if_pos h0;rw [e];go_enter Tryz.func353,Tryz.ntmps353
   go_wp2_with (first|(go_at_call 376;refine(Zgq b (by omega) _).mono ?_;rintro e w1 ⟨rfl,rfl⟩))
   go_ret2
   exact⟨rfl,Below.refl _ _⟩
 · have e:ZM lead b=ZT SP lead (Zz b):=if_neg h0;rw [e];have hcb:=Zgq b (by omega);generalize Zz b=c at*;clear e;go_enter Tryz.func353,Tryz.ntmps353
   go_wp2_with (first|(go_at_call 376;refine(hcb _).mono ?_;rintro e w1 ⟨rfl,rfl⟩)|(go_at_call 373;refine(ZpX _).mono ?_;rintro e w1 ⟨V,rfl,hV,hb1⟩))
   go_loopw [16] (fun i wr=>OneRel lead c w i wr) (fun i _=>11 - (intOf i).toNat)
   case atStart=>exact⟨0,by omega,rfl,rfl,hb1⟩
   case round=>
    obtain⟨k,hk,rfl,heq,hbr⟩:=hrel;by_cases hk11:k<11
    · have hstep:=Lib.hid (ZsL hk11 lead c);obtain⟨hx,hsz⟩:=hex11 hk11;obtain⟨l1,l2,l3,l4,l5,l6,l7⟩:=len11 k hk11;have hsm:=fun j=>@ZtT k hk11 j;have hi:=hV k hk11;have hat:=fun w=>ZnS (sB k) (Zbf k) hx (c - Zz (Zbj k)) hsz ⟨by omega,by omega⟩ w;have hcell:=fun w=>Cell_b (Zbj k) ⟨by omega,by omega⟩ w;generalize ZcW k=L at*;generalize Zbj k=S at*;generalize Zbf k=ps at*;generalize sB k=s at*;generalize Zz S=d at*;clear hx;by_cases hlead:L=lead
      · subst hlead;go_wp2_with fail
        obtain⟨c0,c1,c2⟩:=box3 wr 381 (.int .i64 L) (.int .i64 S) (.string s);have hbw:=hbr.alloc hbr.size (.cells #[.int .i64 L,.int .i64 S,.string s] 381);generalize hW:wr.alloc (.cells #[.int .i64 L,.int .i64 S,.string s] 381)=W at*;clear hW hbr;have hw:IntKind.i64.wrap (c - d)=c - d:=IntWalk.i64_in _ (by omega);by_cases hin:0≤c - d∧c - d<ps.length
        · have hpos:=(hsm (c - d).toNat (by omega)).1;have hval:=Lib.hid (show ZT SP L c=ps.getD (c - d).toNat 0 by rw [heq,hstep.out,if_pos ⟨trivial,hin⟩]);simp only [hin,and_self,if_true,decide_true] at hat;clear heq hstep;go_region_held3 (fun w'=>w'.cell? ⟨wr.heap.size,1,none⟩=some (.int .i64 S)∧w'.cell? ⟨wr.heap.size,2,none⟩=some (.string s)∧Below W.heap.size W w') (first|exact⟨c1,c2,(Below.refl _ _).drew⟩|exact Zj9 (by assumption) (by assumption)) (first|(go_at_call 376;refine(hcell _).mono ?_;rintro e w3 ⟨rfl,hb3⟩)|(go_at_call 387;refine(hat _).mono ?_;rintro e w3 ⟨rfl,hb3⟩))
          rename_i hS
          have hB:=hbw.trans (hS.2.2.mono hbw.size);go_wp2_with fail
          go_ret2
          refine⟨?_,hB⟩;have hne:ps.getD (c - d).toNat 0≠0:=by omega
          show Ending.returned (.tuple #[.int .i32 (ps.getD (c - d).toNat 0),.bool true])=_
          rw [hval.out,decide_eq_true hne]
        · have hval:=Lib.hid (show ZT SP L c=ZT (SP.drop (k+1)) L c by rw [heq,hstep.out,if_neg (fun h=>hin h.2)]);simp only [if_neg hin,decide_eq_false hin] at hat;clear heq hstep hsm;go_region_held3 (fun w'=>w'.cell? ⟨wr.heap.size,1,none⟩=some (.int .i64 S)∧w'.cell? ⟨wr.heap.size,2,none⟩=some (.string s)∧Below W.heap.size W w') (first|exact⟨c1,c2,(Below.refl _ _).drew⟩|exact Zj9 (by assumption) (by assumption)) (first|(go_at_call 376;refine(hcell _).mono ?_;rintro e w3 ⟨rfl,hb3⟩)|(go_at_call 387;refine(hat _).mono ?_;rintro e w3 ⟨rfl,hb3⟩))
          rename_i hS
          have hB:=hbw.trans (hS.2.2.mono hbw.size);go_wp2_with fail
          go_roundw
          case rel=>exact⟨k+1,by omega,by go_num,hval.out,hB⟩
          case measure=>simp [intOf];omega
      · go_wp2_with fail
        go_roundw
        case rel=>exact⟨k+1,by omega,by go_num,by rw [heq,hstep.out,if_neg (fun h=>hlead h.1)],hbr.alloc hbr.size _⟩
        case measure=>simp [intOf];omega
    · have hk2:k=11:=by omega
      subst hk2;have hend:=Lib.hid (ZsJ lead c);clear hk11;go_wp2_with fail
      go_ret2
      rw [heq,hend.out];exact⟨rfl,hbr⟩
theorem ZsC {W:World} {b B:Nat} {p q:Int} {k:IntKind} (hb:b<B)(c1:W.cell? ⟨b,1,none⟩=some (.int k p))(c2:W.cell? ⟨b,2,none⟩=some (.int k q)):ZA W B k (some ⟨b,1,none⟩) [p,q]:=by
 refine⟨by simp,fun _=>⟨_,rfl,hb,fun j u hu=> ?_⟩⟩
 match j,hu with
 |0,hu=>simp at hu;rw [←hu];exact c1
 |1,hu=>simp at hu;rw [←hu];exact c2
 |j+2,hu=>simp at hu
def ZaW:List (Int×Int×Int)→Int→Int→List Int
 |[],_,_=>[]
 |t::l,lead,b=>if lead=136∧b=t.1 then [t.2.1,t.2.2] else ZaW l lead b
def Za6 (lead b:Int):List Int:=ZaW TW lead b
theorem Zuy {lead b:Int} (h:lead≠136):Za6 lead b=[]:=by
 simp [Za6,TW,ZaW,h]
def tw1 (k:Nat):Int:=(TW.getD k (0,0,0)).1
def tw2 (k:Nat):Int:=(TW.getD k (0,0,0)).2.1
def tw3 (k:Nat):Int:=(TW.getD k (0,0,0)).2.2
theorem Zux:∀k,k<4→(98≤tw1 k∧tw1 k≤165)∧(202≤tw2 k∧tw2 k≤234)∧(772≤tw3 k∧tw3 k≤780):=by decide
theorem ZuE {k:Nat} (h:k<4)(lead b:Int):ZaW (TW.drop k) lead b=if lead=136∧b=tw1 k then [tw2 k,tw3 k] else ZaW (TW.drop (k+1)) lead b:=by
 have hl:k<TW.length:=by simpa [TW] using h
 rw [List.drop_eq_getElem_cons hl];simp only [ZaW,tw1,tw2,tw3,List.getD_eq_getElem?_getD,List.getElem?_eq_getElem hl,Option.getD_some]
def TwoRel (lead b:Int)(w0:World)(i:Value)(wr:World):Prop:=∃k:Nat,k≤4∧i= .int .i64 k∧Za6 lead b=ZaW (TW.drop k) lead b∧Below w0.heap.size w0 wr
def Z5 (lead b:Int):List Int:=if ZM lead b≠0 then [ZM lead b] else Za6 lead b
theorem Zl4 (lead b:Int):ZM lead b=0∨(128<ZM lead b∧ZM lead b≤65535∧(ZM lead b<55296∨57343<ZM lead b)):=by
 unfold ZM;split
 · exact .inl rfl
 · exact ZsG (fun _ h=>h) lead _
theorem Zl3 {lead b:Int} (h:ZM lead b≠0):Ze (ZM lead b)=true:=by
 have:=Zl4 lead b;rw [Z1];omega
theorem ZpQ (lead b:Int)(hl:0≤lead∧lead≤255)(hb:0≤b∧b≤255)(h1:ZM lead b≠0)(w:World):
 Calls Tryz.prog 307 #[.int .u8 lead,.int .u8 b] w fun e w'=>e= .returned (.tuple #[.string ⟨(Lib.encodeRune (ZM lead b)).toArray⟩,.bool true])∧Below w.heap.size w w':=by
 have hone:=fun w=>Zjw lead b hl hb w;have hsc:=Zl3 h1;rw [decide_eq_true h1] at hone;generalize ZM lead b=p at*;clear h1;go_enter Tryz.func307,Tryz.ntmps307
 go_wp2_with (first|(go_at_call 353;refine(hone _).mono ?_;rintro e w1 ⟨rfl,hb1⟩)|(go_at_call 258;refine(ZgM p hsc _ _).mono ?_;rintro e w2 ⟨rfl,hb2⟩))
 go_ret2
 exact⟨rfl,hb1.trans ((Zf hb2).mono hb1.size)⟩
theorem ZpP (lead b:Int)(hl:0≤lead∧lead≤255)(hb:0≤b∧b≤255)(h1:ZM lead b=0)(w:World):
 Calls Tryz.prog 307 #[.int .u8 lead,.int .u8 b] w fun e w'=>e= .returned (.tuple #[.string ⟨(Zb (Za6 lead b)).toArray⟩,.bool (decide (Za6 lead b≠[]))])∧Below w.heap.size w w':=by
 have hone:=fun w=>Zjw lead b hl hb w;rw [h1] at hone;go_enter Tryz.func307,Tryz.ntmps307
 go_wp2_with (first|(go_at_call 353;refine(hone _).mono ?_;rintro e w1 ⟨rfl,hb1⟩)|(go_at_call 354;refine(Zp9 _).mono ?_;rintro e w2 ⟨V,rfl,hV,hb2⟩))
 clear hone;go_loopw [25] (fun i wr=>TwoRel lead b w i wr) (fun i _=>4 - (intOf i).toNat)
 case atStart=>exact⟨0,by omega,rfl,rfl,hb1.trans (hb2.mono hb1.size)⟩
 case round=>
  obtain⟨k,hk,rfl,heq,hbr⟩:=hrel;by_cases hk4:k<4
  · have hstep:=Lib.hid (ZuE hk4 lead b);obtain⟨⟨f1,f2⟩,⟨f3,f4⟩,f5,f6⟩:=Zux k hk4;have hi:=hV k hk4;change∀w,(Instr.index 366 V (.int .i64 k)).run Tryz.prog w= .ok (.agg #[.int .i64 (tw1 k),.int .i32 (tw2 k),.int .i32 (tw3 k)]) w at hi
    have Heq:=Lib.hid heq;clear heq;generalize tw1 k=S at*;generalize tw2 k=p at*;generalize tw3 k=q at*;have hsc:∀x∈[p,q],Ze x=true:=by
     intro x hx;rw [Z1];simp at hx;rcases hx with rfl|rfl<;>omega
    have hbA:=hbr.alloc hbr.size (.cells #[.int .i64 S,.int .i32 p,.int .i32 q] 365);by_cases h136:lead=136
    · by_cases hS:b=S
      · have hval:=Lib.hid (show Za6 lead b=[p,q] by rw [Heq.out,hstep.out,if_pos ⟨h136,hS⟩]);clear hstep Heq;subst h136 hS;go_wp2_with (first|(go_at_call 258;refine(ZjT _ _ [p,q] _ (ZsC (Nat.lt_succ_self _) (box3 _ _ _ _ _).2.1 (box3 _ _ _ _ _).2.2) (by simp) hsc (by simp)).mono ?_;rintro e w3 ⟨rfl,hb3⟩))
        go_ret2
        rw [hval.out];exact⟨rfl,hbA.trans (hb3.mono hbA.size)⟩
      · have hval:=Lib.hid (show Za6 lead b=ZaW (TW.drop (k+1)) lead b by rw [Heq.out,hstep.out,if_neg (fun h=>hS h.2)]);clear hstep Heq;subst h136;go_wp2_with fail
        go_roundw
        case rel=>exact⟨k+1,by omega,by go_num,hval.out,hbA⟩
        case measure=>simp [intOf];omega
    · have hval:=Lib.hid (show Za6 lead b=ZaW (TW.drop (k+1)) lead b by rw [Heq.out,hstep.out,if_neg (fun h=>h136 h.1)]);clear hstep Heq;go_wp2_with fail
      go_roundw
      case rel=>exact⟨k+1,by omega,by go_num,hval.out,hbA⟩
      case measure=>simp [intOf];omega
  · have hk2:k=4:=by omega
    subst hk2;have hend:=Lib.hid (show Za6 lead b=[] from heq);clear hk4 heq;go_wp2_with fail
    go_ret2
    rw [hend.out];exact⟨rfl,hbr⟩
theorem ZpO (lead b:Int)(hl:0≤lead∧lead≤255)(hb:0≤b∧b≤255)(w:World):
 Calls Tryz.prog 307 #[.int .u8 lead,.int .u8 b] w fun e w'=>e= .returned (.tuple #[.string ⟨(Zb (Z5 lead b)).toArray⟩,.bool (decide (Z5 lead b≠[]))])∧Below w.heap.size w w':=by
 by_cases h1:ZM lead b=0
 · have e:Z5 lead b=Za6 lead b:=by unfold Z5;rw [if_neg (by simp [h1])]
   rw [e];exact ZpP lead b hl hb h1 w
 · have e:Z5 lead b=[ZM lead b]:=by unfold Z5;rw [if_pos h1]
   have e2:Zb [ZM lead b]=Lib.encodeRune (ZM lead b):=by simp [Zb]
   rw [e,e2];exact ZpQ lead b hl hb h1 w
end Go.Proofs.YtlfinljfghhpdaaGreatDoor
namespace Go.Proofs.YtlfinljfghhpdaaGreatDoor
open Go Go.RowKit Go.Maps
def twoV (x y:UInt8):Value:= .agg #[.int .u8 x.toNat,.int .u8 y.toNat]
def ZeS:Value→Option (DataW Unit×List MemPlace)
 | .agg ⟨[.string s]⟩=>some (.lit (.string s.data.toList),[])
 |_=>none
theorem Zul {v:Value} {z:DataW Unit×List MemPlace} (h:ZeS v=some z):∃s:ByteArray,v= .agg #[.string s]∧z=(.lit (.string s.data.toList),[]):=by
 unfold ZeS at h;split at h
 · injection h with h;exact⟨_,rfl,h.symm⟩
 · cases h
theorem law2u:Keyed Tryz.prog 275:=Keyed.of_law (deep_law_laid (m:=3) (by kernel_rfl) (by decide) (of_decide_eq_true (by kernel_rfl)) (by kernel_rfl) (by kernel_rfl))
theorem u8_wf (x:UInt8):(Lit.int .u8 (x.toNat:Int)).wf=true:=by
 have:=x.toNat_lt;simp [Lit.wf,IntKind.min,IntKind.max,IntKind.bits,IntKind.signed];omega
theorem ZuH (z:UInt8):(Lit.int .u8 (z.toNat:Int)).keyBytes=[z]:=by
 have hz:=z.toNat_lt;have e1:((z.toNat:Int) % 2^IntKind.u8.bits).toNat=z.toNat:=by
  show((z.toNat:Int) % 2^8).toNat=z.toNat
  omega
 show bytesBE 1 ((z.toNat:Int) % 2^IntKind.u8.bits).toNat=[z]
 rw [e1];simp [bytesBE,bytesLE]
theorem Zls (x y:UInt8):keyOf Tryz.prog 275 (twoV x y)=some (.string [x,y]):=by
 have h1:Tryz.prog.keyType 275=true:=by kernel_rfl
 have h3:Tryz.prog.cellsOf 275=2:=by kernel_rfl
 have h4:Tryz.prog.cellsOf 5=1:=by kernel_rfl
 have h5:1≤Tryz.prog.types.size:=of_decide_eq_true (by kernel_rfl);have h2:(twoV x y).formed Tryz.prog 275=true:=by
  simp [twoV,Value.formed,Tryz.underlying275,h3]
 have hk:∀m,Tryz.prog.keyLits (m+1+1) 275 [.int .u8 x.toNat,.int .u8 y.toNat]=some [.int .u8 x.toNat,.int .u8 y.toNat]:=by
  intro m;have hi:∀z:UInt8,Tryz.prog.keyLits (m+1) 5 [.int .u8 z.toNat]=some [.int .u8 z.toNat]:=by
   intro z;rw [Program.keyLits.eq_def];simp only [Tryz.underlying5,u8_wf,and_self,if_true]
  rw [Program.keyLits.eq_def];simp only [Tryz.underlying275,h3,h4,List.length_cons,List.length_nil,if_true];simp only [List.range_succ,List.range_zero,List.nil_append,List.cons_append,List.mapM_cons,List.mapM_nil];simp [hi]
 obtain⟨m,hm⟩:∃m,Tryz.prog.types.size=m+1:=⟨Tryz.prog.types.size - 1,by omega⟩
 unfold keyOf;rw [Tryz.underlying275];simp only [h1,Bool.true_and];rw [if_pos h2,hm];show(Tryz.prog.keyLits (m+1+1) 275 [.int .u8 x.toNat,.int .u8 y.toNat]).map _=_
 rw [hk m,Option.map_some];simp only [keyBytes,List.flatMap_cons,List.flatMap_nil,ZuH,List.append_nil,List.cons_append,List.nil_append]
def MpT (w:World)(b n:Nat)(M:UInt8→UInt8→Option (List UInt8)):Prop:=∃D:DataW Unit,w.ownsMap Tryz.prog 275 ZeS b n D∧(∀x y,(M x y).isSome=Maps.has D (.string [x,y]))∧∀x y t,M x y=some t→∀z,D.atKey (.string [x,y]) z= .lit (.string t)
theorem MpT.made (w:World):MpT (w.alloc (.map #[] 0)) w.heap.size 0 (fun _ _=>none):=⟨.map [],World.ownsMap_made _ _ _ _,fun _ _=>rfl,fun _ _ _ h=>by cases h⟩
theorem MpT.kept {w w':World} {b n:Nat} {M:UInt8→UInt8→Option (List UInt8)} {row:Option Nat} (h:MpT w b n M)(hg:w.grownBy w' row)(hne:some b≠row):MpT w' b n M:=by
 obtain⟨D,h1,h2⟩:=h;exact⟨D,h1.kept hg hne,h2⟩
theorem MpT.below {w w':World} {b n:Nat} {M:UInt8→UInt8→Option (List UInt8)} (h:MpT w b n M)(hb:Below w.heap.size w w'):MpT w' b n M:=
 h.kept (row:=none) ⟨hb.os,hb.tape,hb.output,hb.size,fun k hk _=>hb.block k hk⟩ (by simp)
theorem zeroT (w:World):(zeroValue 277).run Tryz.prog w= .ok (.agg #[.string ⟨#[]⟩]) w:=by kernel_rfl
section
variable {ops:Array Oper} {rest:List Oper} {o:Oper} {a:Act} {Q:Exit→Act→World→Prop} {w:World} {b n:Nat} {M:UInt8→UInt8→Option (List UInt8)}
theorem ZlL (hg:o.guard=none)(m x:Operand)(hop:o.op=Op.lookup 274 m x true)(h:MpT w b n M)(hm:a.eval m= .map (some b))(p q:UInt8)(hx:a.eval x= .agg #[.int .u8 p.toNat,.int .u8 q.toNat])
 (hK:∀t:List UInt8,(∀k,M p q=some k→t=k)→wpList Tryz.prog ops Q rest (a.put o.dst (.tuple #[.agg #[.string (B t)],.bool (M p q).isSome])) w):
 wpList Tryz.prog ops Q (o::rest) a w:=by
 obtain⟨D,h1,h2,h3⟩:=h;refine wpList_lookup_own_ok w hg m x 274 hop 275 277 law2u Tryz.underlying274 ZeS (zeroT _) (.lit (.string [])) [] rfl b n D hm h1 _ (.string [p,q]) hx (Zls p q) ?_;intro v ps hv;rw [←h2];obtain⟨s,rfl,hz⟩:=Zul hv;have:=hK s.data.toList (fun k hk=>by
  have e:=h3 p q k hk (.lit (.string []));rw [Prod.mk.injEq] at hz;rw [hz.1] at e;simpa using e)
 rw [←Zcr] at this;exact this
theorem ZlM (hg:o.guard=none)(m x v:Operand)(hop:o.op=Op.mapUpdate 274 m x v)(h:MpT w b n M)(hm:a.eval m= .map (some b))(p q:UInt8)(hx:a.eval x= .agg #[.int .u8 p.toNat,.int .u8 q.toNat])(t:List UInt8)(hv:a.eval v= .agg #[.string (B t)])(hn:n≤10000000)
 (hK:∀w',MpT w' b (n+1) (fun x y=>if x=p∧y=q then some t else M x y)→w.grownBy w' (some b)→wpList Tryz.prog ops Q rest (a.put o.dst undef) w'):
 wpList Tryz.prog ops Q (o::rest) a w:=by
 obtain⟨D,h1,h2,h3⟩:=h;have hr:ZeS (.agg #[.string (B t)])=some (.lit (.string t),[]):=by
  show some ((.lit (.string (B t).data.toList):DataW Unit),([]:List MemPlace))=_
  rw [ZQ]
 refine wpList_mapUpdate_own _ hg m x v 274 hop 275 277 law2u Tryz.underlying274 _ b n D hm h1 (by unfold maxLen;omega) _ _ (.string [p,q]) hx hv (Zls p q) _ [] hr ?_;intro w' h4 h5;have hD:IsMap D:=by obtain⟨es,cl,_,_,_,rfl⟩:=h1;exact⟨_,rfl⟩
 refine hK w' ⟨_,h4,fun x y=> ?_,fun x y k hk z=> ?_⟩ h5
 · show(if x=p∧y=q then some t else M x y).isSome=_
   by_cases e:x=p∧y=q
   · obtain⟨rfl,rfl⟩:=e;rw [if_pos ⟨rfl,rfl⟩,has_put_same hD (show WideAt.IsKeyLit (.string [x,y]) from trivial)];rfl
   · rw [if_neg e,h2,has_put_other (by simpa using e)]
 · have hk:(if x=p∧y=q then some t else M x y)=some k:=hk;by_cases e:x=p∧y=q
   · obtain⟨rfl,rfl⟩:=e;rw [if_pos ⟨rfl,rfl⟩] at hk;injection hk with hk;subst hk;exact atKey_put_same hD (show WideAt.IsKeyLit (.string [x,y]) from trivial) _ _
   · rw [if_neg e] at hk;rw [atKey_put_other (by simpa using e)];exact h3 x y k hk z
end
end Go.Proofs.YtlfinljfghhpdaaGreatDoor
namespace Go.Proofs.YtlfinljfghhpdaaGreatDoor
open Go Go.RowKit
theorem ZdD {k:IntKind} {a b:Int} {x y:Bool} (h:a=b)(h2:x=y):Ending.returned (.tuple #[.int k a,.bool x])= .returned (.tuple #[.int k b,.bool y]):=by rw [h,h2]
def v0 (z:Int):Int:=if z= -2 then 0 else z
def g0 (z:Int):Bool:=decide (z≠ -2)
theorem ZiO:v0 (-2)=0:=rfl
theorem Zhq:g0 (-2)=false:=rfl
theorem ZiP {z:Int} (h:z≠ -2):v0 z=z:=if_neg h
theorem Zhr {z:Int} (h:z≠ -2):g0 z=true:=by simp [g0,h]
theorem Zop (c:Int)(h0:0≤c∧c≤1000)(w:World):
 Calls Tryz.prog 348 #[.int .i64 c] w fun e w'=>e= .returned (.tuple #[.int .i64 (v0 (Zas c)),.bool (g0 (Zas c))])∧w=w':=by
 by_cases h1:c=1
 · subst h1;go_enter Tryz.func348,Tryz.ntmps348
   go_wp2_with fail
   go_ret2
   exact⟨rfl,rfl⟩
 have hb:(c==1)=false:=by simpa using h1
 have a0:=h0.1;have a1:=h0.2;clear h0;obtain⟨z,hz⟩:∃z,Zas c=z:=⟨_,rfl⟩
 rw [hz];have HZ:=Lib.hid hz;clear hz;go_enter Tryz.func348,Tryz.ntmps348
 go_wp2
 all_goals go_ret2
 all_goals refine⟨ZdD ?_ ?_,rfl⟩
 all_goals (have hz:=HZ.out;clear HZ;unfold Zas at hz;(repeat' split at hz)<;>subst hz<;>first|rfl|(exfalso;omega)|(unfold v0;split<;>omega)|(unfold g0;simp;omega))
theorem Zoq (c:Int)(h0:0≤c∧c≤1000)(w:World):
 Calls Tryz.prog 349 #[.int .i64 c] w fun e w'=>e= .returned (.tuple #[.int .i64 (v0 (Zat c)),.bool (g0 (Zat c))])∧w=w':=by
 by_cases h1:c=2
 · subst h1;go_enter Tryz.func349,Tryz.ntmps349
   go_wp2_with fail
   go_ret2
   exact⟨rfl,rfl⟩
 have hb:(c==2)=false:=by simpa using h1
 have a0:=h0.1;have a1:=h0.2;clear h0;obtain⟨z,hz⟩:∃z,Zat c=z:=⟨_,rfl⟩
 rw [hz];have HZ:=Lib.hid hz;clear hz;go_enter Tryz.func349,Tryz.ntmps349
 go_wp2
 all_goals go_ret2
 all_goals refine⟨ZdD ?_ ?_,rfl⟩
 all_goals (have hz:=HZ.out;clear HZ;unfold Zat at hz;(repeat' split at hz)<;>subst hz<;>first|rfl|(exfalso;omega)|(unfold v0;split<;>omega)|(unfold g0;simp;omega))
theorem Zoo (c:Int)(h0:0≤c∧c≤1000)(w:World):
 Calls Tryz.prog 350 #[.int .i64 c] w fun e w'=>e= .returned (.tuple #[.int .i64 (v0 (Zac c)),.bool (g0 (Zac c))])∧w=w':=by
 have a0:=h0.1;have a1:=h0.2;clear h0;obtain⟨z,hz⟩:∃z,Zac c=z:=⟨_,rfl⟩
 rw [hz];have HZ:=Lib.hid hz;clear hz;go_enter Tryz.func350,Tryz.ntmps350
 go_wp2
 all_goals go_ret2
 all_goals refine⟨ZdD ?_ ?_,rfl⟩
 all_goals (have hz:=HZ.out;clear HZ;unfold Zac at hz;(repeat' split at hz)<;>subst hz<;>first|rfl|(exfalso;omega)|(unfold v0;split<;>omega)|(unfold g0;simp;omega))
theorem Zos (i m f:Int)(hi:0≤i∧i≤18)(hm:0≤m∧m≤20)(hf:0≤f∧f≤27)(w:World):
 Calls Tryz.prog 351 #[.int .i64 i,.int .i64 m,.int .i64 f] w fun e w'=>e= .returned (.tuple #[.int .i32 (Zec i m f),.bool true])∧w=w':=by
 obtain⟨i0,i1⟩:=hi;obtain⟨m0,m1⟩:=hm;obtain⟨f0,f1⟩:=hf;have d1:decide (i<0)=false:=by simp;omega
 have d2:decide ((19:Int)≤i)=false:=by simp;omega
 have d3:decide (m<0)=false:=by simp;omega
 have d4:decide ((21:Int)≤m)=false:=by simp;omega
 have d5:decide (f<0)=false:=by simp;omega
 have d6:decide ((28:Int)≤f)=false:=by simp;omega
 go_enter Tryz.func351,Tryz.ntmps351
 go_wp2_with fail
 go_ret2
 exact⟨rfl,rfl⟩
theorem idx_hi {k:Nat} (hk:k<256):Lib.indexByte Zcy (UInt8.ofNat k)<30:=by
 have h:(List.range 256).all (fun k=>decide (Lib.indexByte Zcy (UInt8.ofNat k)<30))=true:=by decide+kernel
 simpa using List.all_eq_true.1 h k (List.mem_range.2 hk)
theorem Zjp (k:Nat)(hk:k<256)(w:World):
 Calls Tryz.prog 352 #[.int .u8 (k:Int)] w fun e w'=>e= .returned (.tuple #[.int .i32 (Zab k),.bool (decide (Zab k≠0))])∧Below w.heap.size w w':=by
 have hb0:=Lib.indexByte_ge Zcy (UInt8.ofNat k);have hb1':=idx_hi hk;have hu:(UInt8.ofNat k).toNat=k:=by simp;omega
 have hix:∀w,Calls Tryz.prog 290 #[.string ⟨#[65,66,100,67,102,103,68,69,70,106,107,108,109,110,111,112,71,72,73,115,74,75,76,77,78,79,80,81,82,83]⟩,.int .u8 (k:Int)] w fun e w'=>e= .returned (.int .i64 (Lib.indexByte Zcy (UInt8.ofNat k)))∧Below w.heap.size w w':=by
  intro w;refine(Tryz.strings_IndexByte _ _ w).mono ?_;rintro e w' ⟨rfl,rfl⟩;refine⟨Za4 ?_,Below.refl _ _⟩;have e1:((k:Int)).toNat.toUInt8=UInt8.ofNat k:=by simp [Nat.toUInt8]
  rw [e1];rfl
 have hc:Zab k=if Lib.indexByte Zcy (UInt8.ofNat k)<0 then 0 else 12593+Lib.indexByte Zcy (UInt8.ofNat k):=rfl
 generalize Lib.indexByte Zcy (UInt8.ofNat k)=j at*;by_cases h0:j<0
 · have e:Zab k=0:=by rw [hc,if_pos h0]
   have E:=Lib.hid e;clear hc e;go_enter Tryz.func352,Tryz.ntmps352
   go_wp2_with (go_at_call 290;refine(hix _).mono ?_;rintro e w1 ⟨rfl,hb1⟩)
   go_ret2
   rw [E.out];exact⟨rfl,hb1⟩
 · have e:Zab k=12593+j:=by rw [hc,if_neg h0]
   have E:=Lib.hid e;have j0:0≤j:=by omega
   have j1:j≤30:=by omega
   clear hc e;go_enter Tryz.func352,Tryz.ntmps352
   go_wp2_with (go_at_call 290;refine(hix _).mono ?_;rintro e w1 ⟨rfl,hb1⟩)
   go_ret2
   rw [E.out];exact⟨ZdD rfl (by simp;omega),hb1⟩
end Go.Proofs.YtlfinljfghhpdaaGreatDoor
