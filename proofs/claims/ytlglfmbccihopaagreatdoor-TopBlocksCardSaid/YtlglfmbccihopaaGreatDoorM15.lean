/- Lemmas for a statement on the tops; conditions: as each says. -/
import Derived.Laws.Tables
import Derived.Deep.WholeRow
import Derived.Deep.QuietTactic
import Derived.BigQuiet
import Derived.Test.YtlglfmbccihopaaGreatDoorM14
set_option linter.unusedVariables false
set_option linter.unusedSimpArgs false
set_option maxRecDepth 100000
set_option maxHeartbeats 1000000
namespace Go.Proofs.YtlglfmbccihopaaGreatDoor
open Go Go.RowKit
theorem Zhx {x y:Int} (hy₀:0≤y)(hy:y<16)(hx₀:0≤x)(hx:x<134217728):bits .or .i32 (x*16) y=x*16+y:=
 bits_join .i32 31 (by decide) (fun n h0 h1=>by simp [IntKind.wrap,IntKind.bits,IntKind.signed];omega) 4 (x*16) y (by omega) (by omega) (by omega) hy₀ hy (by omega)
def Zb1 (s:ByteArray)(ps:List Int):Prop:=s.data.toList=Zu ps∧ZgO ps
theorem Zb1.size {s:ByteArray} {ps:List Int} (h:Zb1 s ps):s.size=5*ps.length:=by
 rw [←Zk6,←h.1];simp
theorem Zb1.digit {s:ByteArray} {ps:List Int} (h:Zb1 s ps){k j m:Nat} (hm:m=5*k)(hk:k<ps.length)(hj:j<5)(hi:m+j<s.size):(Zi (ps.getD k 0))[j]? =some s[m+j]:=by
 subst hm;rw [←Zk5 ps k j hk hj,←h.1];have hl:5*k+j<s.data.toList.length:=by simpa using hi
 rw [List.getElem?_eq_getElem hl];rfl
theorem Ze0 (d:Int)(c:UInt8)(hd:0≤d∧d<16)(hc:c=Zp d)(w:World):
 Calls Tryz.prog 233 #[.string ⟨#[48,49,50,51,52,53,54,55,56,57,65,66,67,68,69,70]⟩,.int .u8 (c.toNat:Int)] w fun e w'=>e= .returned (.int .i64 d)∧w=w':=by
 refine(Tryz.strings_IndexByte _ _ w).mono ?_;rintro e w' ⟨rfl,rfl⟩;refine⟨ZaC ?_,rfl⟩;have e1:((c.toNat:Int)).toNat.toUInt8=c:=ZaS rfl;rw [e1,hc];exact ZfE hd.1 hd.2
theorem Znz (s:ByteArray)(ps:List Int)(h:Zb1 s ps)(k:Int)(hk:k<0∨ps.length≤k)(hs:s.size≤100000)(hkb: -100000≤k∧k≤100000)(w:World):
 Calls Tryz.prog 368 #[.string s,.int .i64 k] w fun e w'=>e= .returned (.tuple #[.int .i32 0,.bool false])∧Below w.heap.size w w':=by
 have hsz:=h.size;have hdiv:(s.size:Int) / 5=ps.length:=by omega
 by_cases h0:k<0
 · go_enter Tryz.func368,Tryz.ntmps368
   go_wp2_with fail
   go_ret2
   exact⟨rfl,Below.refl _ _⟩
 · have h1:(s.size:Int) / 5≤k:=by omega
   clear hdiv;go_enter Tryz.func368,Tryz.ntmps368
   go_wp2_with fail
   go_ret2
   exact⟨rfl,Below.refl _ _⟩
theorem Zny (s:ByteArray)(ps:List Int)(h:Zb1 s ps)(k:Nat)(hk:k<ps.length)(hs:s.size≤100000)(w:World):
 Calls Tryz.prog 368 #[.string s,.int .i64 k] w fun e w'=>e= .returned (.tuple #[.int .i32 (ps.getD k 0),.bool true])∧Below w.heap.size w w':=by
 have hsz:=h.size;have hp:=h.2 _ (Zc9 hk);have d0:=h.digit (j:=0) (m:=5*k) rfl hk (by omega) (by omega);have d1:=h.digit (j:=1) (m:=5*k) rfl hk (by omega) (by omega);have d2:=h.digit (j:=2) (m:=5*k) rfl hk (by omega) (by omega);have d3:=h.digit (j:=3) (m:=5*k) rfl hk (by omega) (by omega);generalize ps.getD k 0=p at*;obtain⟨q0,q1,q2,q3⟩:=Zdu hp;simp [Zi] at d0 d1 d2 d3;have D0:=fun w=>Ze0 (p / 4096) s[5*k] q0 d0.symm w;have D1:=fun w=>Ze0 (p / 256 % 16) s[5*k+1] q1 d1.symm w;have D2:=fun w=>Ze0 (p / 16 % 16) s[5*k+2] q2 d2.symm w;have D3:=fun w=>Ze0 (p % 16) s[5*k+3] q3 d3.symm w;obtain⟨q00,q01⟩:=q0;obtain⟨q10,q11⟩:=q1;obtain⟨q20,q21⟩:=q2;obtain⟨q30,q31⟩:=q3;have hge:¬(s.size:Int) / 5≤k:=by omega
 have hm':(k:Int)*5=5*(k:Int):=by omega
 have hmb:5*k+3<s.size:=by omega
 have hA1:(5*(k:Int)+1).toNat=5*k+1:=by omega
 have hA2:(5*(k:Int)+1+1).toNat=5*k+2:=by omega
 have hA3:(5*(k:Int)+1+1+1).toNat=5*k+3:=by omega
 clear d0 d1 d2 d3 h;go_enter Tryz.func368,Tryz.ntmps368
 go_wp2_with fail
 refine wp_loop_rounds 5 ?_;rw [rounds_succ];go_wp2_with (first|(go_at_call 233;first|(refine(D0 _).mono ?_;clear D0;rintro e w' ⟨rfl,rfl⟩)|(refine(D1 _).mono ?_;clear D1;rintro e w' ⟨rfl,rfl⟩)|(refine(D2 _).mono ?_;clear D2;rintro e w' ⟨rfl,rfl⟩)|(refine(D3 _).mono ?_;clear D3;rintro e w' ⟨rfl,rfl⟩)))
 rw [rounds_succ];go_wp2_with (first|(go_at_call 233;first|(refine(D0 _).mono ?_;clear D0;rintro e w' ⟨rfl,rfl⟩)|(refine(D1 _).mono ?_;clear D1;rintro e w' ⟨rfl,rfl⟩)|(refine(D2 _).mono ?_;clear D2;rintro e w' ⟨rfl,rfl⟩)|(refine(D3 _).mono ?_;clear D3;rintro e w' ⟨rfl,rfl⟩)))
 rw [rounds_succ];go_wp2_with (first|(go_at_call 233;first|(refine(D0 _).mono ?_;clear D0;rintro e w' ⟨rfl,rfl⟩)|(refine(D1 _).mono ?_;clear D1;rintro e w' ⟨rfl,rfl⟩)|(refine(D2 _).mono ?_;clear D2;rintro e w' ⟨rfl,rfl⟩)|(refine(D3 _).mono ?_;clear D3;rintro e w' ⟨rfl,rfl⟩)))
 rw [rounds_succ];go_wp2_with (first|(go_at_call 233;first|(refine(D0 _).mono ?_;clear D0;rintro e w' ⟨rfl,rfl⟩)|(refine(D1 _).mono ?_;clear D1;rintro e w' ⟨rfl,rfl⟩)|(refine(D2 _).mono ?_;clear D2;rintro e w' ⟨rfl,rfl⟩)|(refine(D3 _).mono ?_;clear D3;rintro e w' ⟨rfl,rfl⟩)))
 rw [rounds_succ];go_wp2_with fail
 go_ret2
 refine⟨?_,Below.refl _ _⟩;have e:∀x:Int,x=p→Ending.returned (.tuple #[.int .i32 x,.bool true])= .returned (.tuple #[.int .i32 p,.bool true]):=fun x hx=>by rw [hx]
 refine e _ ?_;have f1:wrap32 ((p / 4096*16+p / 256 % 16)*16)=p / 256*16:=by unfold wrap32;omega
 have f2:wrap32 ((p / 256*16+p / 16 % 16)*16)=p / 16*16:=by unfold wrap32;omega
 rw [Zhx (by omega) (by omega) (by omega) (by omega),f1,Zhx (by omega) (by omega) (by omega) (by omega),f2,Zhx (by omega) (by omega) (by omega) (by omega)];omega
theorem Zhv {x:Int} (h0:0≤x)(h1:x≤65535):bits .and .i32 x 15=x % 16:=
 bits_mask .i32 31 (by decide) (fun n h0 h1=>by simp [IntKind.wrap,IntKind.bits,IntKind.signed];omega) 4 (by decide) x h0 (by omega)
theorem ZfG {n:Int} (h:0≤n∧n<16){hi:n.toNat<(⟨#[48,49,50,51,52,53,54,55,56,57,65,66,67,68,69,70]⟩:ByteArray).size}:
 (⟨#[48,49,50,51,52,53,54,55,56,57,65,66,67,68,69,70]⟩:ByteArray)[n.toNat]=Zp n:=by
 rcases Zig h.1 h.2 with rfl|rfl|rfl|rfl|rfl|rfl|rfl|rfl|rfl|rfl|rfl|rfl|rfl|rfl|rfl|rfl<;>rfl
theorem Ztj (p:Int):strOfNums [((Zp (p / 4096)).toNat:Int),(Zp (p / 256 % 16)).toNat,(Zp (p / 16 % 16)).toNat,(Zp (p % 16)).toNat,32]=⟨(Zi p).toArray⟩:=by
 have e:∀c:UInt8,((c.toNat:Int)).toNat.toUInt8=c:=fun c=>ZaS rfl;simp only [strOfNums,List.map_cons,List.map_nil,e,Zi];rfl
theorem Zqb (p:Int)(w:World):(convert 96 9 (.slice (some ⟨w.heap.size,0,none⟩) 5 5)).run Tryz.prog (w.alloc (.cells #[.int .u8 (Zp (p / 4096)).toNat,.int .u8 (Zp (p / 256 % 16)).toNat,.int .u8 (Zp (p / 16 % 16)).toNat,.int .u8 (Zp (p % 16)).toNat,.int .u8 32] 5)).drew= .ok (.string ⟨(Zi p).toArray⟩) (w.alloc (.cells #[.int .u8 (Zp (p / 4096)).toNat,.int .u8 (Zp (p / 256 % 16)).toNat,.int .u8 (Zp (p / 16 % 16)).toNat,.int .u8 (Zp (p % 16)).toNat,.int .u8 32] 5)).drew:=by
 have hcv:=Zfl (P:=Tryz.prog) 96 9 5 Tryz.underlying96 Tryz.underlying5 Tryz.underlying9 _ (Reads.drew (ZhS w 5 [((Zp (p / 4096)).toNat:Int),(Zp (p / 256 % 16)).toNat,(Zp (p / 16 % 16)).toNat,(Zp (p % 16)).toNat,32] .u8)) 5;rw [Ztj] at hcv;exact hcv
def ZcH (ps:List Int)(p:Int):Int:=if p<0∨65535<p then -1 else fnd ps p
theorem Zod (s:ByteArray)(ps:List Int)(h:Zb1 s ps)(p:Int)(hs:s.size≤100000)(w:World)(m:Int)(hm:w.cell? ⟨3,0,none⟩=some (.int .i64 m)):
 Calls Tryz.prog 379 #[.string s,.int .i32 p] w fun e w'=>e= .returned (.int .i64 (ZcH ps p))∧Below w.heap.size w w':=by
 by_cases hp:p<0∨65535<p
 · have e:ZcH ps p= -1:=by unfold ZcH;rw [if_pos hp]
   rw [e];rcases hp with hp|hp
   · go_enter Tryz.func379,Tryz.ntmps379
     go_wp2_with fail
     go_ret
     exact⟨rfl,Below.refl _ _⟩
   · have h0:¬p<0:=by omega
     go_enter Tryz.func379,Tryz.ntmps379
     go_wp2_with fail
     go_ret
     exact⟨rfl,Below.refl _ _⟩
 · have e:ZcH ps p=fnd ps p:=by unfold ZcH;rw [if_neg hp]
   rw [e];have hp':0≤p∧p≤65535:=by omega
   obtain⟨p0,p1⟩:=hp';have hn0:¬p<0:=by omega
   have hn1:¬65535<p:=by omega
   obtain⟨⟨q00,q01⟩,⟨q10,q11⟩,⟨q20,q21⟩,⟨q30,q31⟩⟩:=Zdu ⟨p0,p1⟩;clear hp e;have b1:bits BinOp.and IntKind.i32 (p / 256) 15=p / 256 % 16:=Zhv (by omega) (by omega);have b2:bits BinOp.and IntKind.i32 (p / 16) 15=p / 16 % 16:=Zhv (by omega) (by omega);have b3:bits BinOp.and IntKind.i32 p 15=p % 16:=Zhv (by omega) (by omega);go_enter Tryz.func379,Tryz.ntmps379
   go_wp2_with fail
   go_region
   simp only [ZfG ⟨q00,q01⟩,ZfG ⟨q10,q11⟩,ZfG ⟨q20,q21⟩,ZfG ⟨q30,q31⟩];have hx:=Zrf ps p h.2 ⟨p0,p1⟩;have hcv:=Zqb p w;have hpos:=World.block_lt_of_cell? _ _ hm;have hge:=Zfx ps p;have hlt:=Zen ps p;have hsz:=h.size;have hsm:s.size<4294967281:=by omega
   have hcell:((w.alloc (.cells #[.int .u8 (Zp (p / 4096)).toNat,.int .u8 (Zp (p / 256 % 16)).toNat,.int .u8 (Zp (p / 16 % 16)).toNat,.int .u8 (Zp (p % 16)).toNat,.int .u8 32] 5)).drew).cell? ⟨3,0,none⟩=some (.int .i64 m):=by
    show(w.alloc _).cell? _=_
    rw [World.cell?_alloc_lt w _ _ hpos];exact hm
   go_wp2_with (first|(go_at_call 324;refine(Tryz.strings_Index s ⟨(Zi p).toArray⟩ m _ hsm hcell).mono ?_;rintro e w1 ⟨rfl,rfl⟩))
   all_goals go_ret
   all_goals refine⟨ZaC ?_,((Below.refl _ w).alloc (Nat.le_refl _) _).drew⟩
   all_goals rename_i hq
   all_goals simp only [h.1,hx] at hq⊢
   · by_cases hz:fnd ps p= -1
     · omega
     · rw [if_neg hz] at hq;omega
   · by_cases hz:fnd ps p= -1
     · rw [if_pos hz] at hq;omega
     · rw [if_neg hz,Int.mul_tdiv_cancel_left _ (by decide)];unfold wrap64;omega
theorem Width2 (w:World):Calls Tryz.prog 33 #[.int .i64 2] w fun e w'=>e= .returned (.int .i64 2)∧w=w':=by
 go_enter Tryz.func33,Tryz.ntmps33
 go_wp2
 go_ret
 exact⟨rfl,rfl⟩
theorem make2 (w:World):(Instr.makeSlice 96 (.int .i64 2) (.int .i64 2)).run Tryz.prog w= .ok (.slice (some ⟨w.heap.size,0,none⟩) 2 2) (w.alloc (.cells #[.int .u8 0,.int .u8 0] 5)):=by
 kernel_rfl
theorem Big2 (n:Int)(h0:0≤n)(h1:n≤65535)(w:World):
 Calls Tryz.prog 19 #[.int .u64 n,.int .i64 2] w fun e w'=>e= .returned (.string ⟨#[(n / 256).toNat.toUInt8,(n % 256).toNat.toUInt8]⟩)∧Below w.heap.size w w':=by
 have hmk:=make2;go_enter Tryz.func19,Tryz.ntmps19
 go_wp2_with (first|(go_at_call 33;refine(Width2 _).mono ?_;rintro e w' ⟨rfl,rfl⟩))
 refine wp_loop_rounds 3 ?_;rw [rounds_succ];go_wp2_with fail
 rw [rounds_succ];go_wp2_with fail
 have hcv:=conv2 (P:=Tryz.prog) 96 9 5 Tryz.underlying96 Tryz.underlying5 Tryz.underlying9 w (n / 256) (n % 256) 2;rw [rounds_succ];go_wp2_with fail
 go_ret
 exact⟨rfl,(Below.refl _ w).alloc (Nat.le_refl _) _⟩
theorem ZdI {x y:Int} (hy₀:0≤y)(hy:y<256)(hx₀:0≤x)(hx:x<8388608):bits .or .i64 (x*256) y=x*256+y:=
 bits_join .i64 63 (by decide) (fun n h0 h1=>by simp [IntKind.wrap,IntKind.bits,IntKind.signed];omega) 8 (x*256) y (by omega) (by omega) (by omega) hy₀ hy (by omega)
def wB (l:Int):ByteArray:=⟨(Zu (Zq l)).toArray⟩
theorem litW (l:Int)(d:Array UInt8)(h:ZcG d.toList (Zu (Zq l))=true):ByteArray.mk d=wB l:=by
 have:=Zfs _ _ h;unfold wB;rw [←this]
def Zde:ByteArray:=⟨#[]⟩
theorem litN:ByteArray.mk #[]=Zde:=rfl
theorem Zno {l:Int} (h1:l≠161)(h2:l≠162)(h6:l≠166):wB l=Zde:=by
 unfold wB Zq;rw [if_neg h1,if_neg h2,if_neg h6];rfl
theorem ZgC (l:Int)(hl:0≤l∧l≤255)(w:World):
 Calls Tryz.prog 367 #[.int .i64 l] w fun e w'=>e= .returned (.tuple #[.string (wB l),.int .i64 (l*256+161)])∧Below w.heap.size w w':=by
 obtain⟨l0,l1⟩:=hl;have hor:bits .or .i64 (l*256) 161=l*256+161:=ZdI (by omega) (by omega) l0 (by omega);have ho:=fun h1 h2 h6=>@Zno l h1 h2 h6;refine calls_of_wp Tryz.func367 rfl ?_;rw [litN];rw [litW 161]
 rotate_left
 kernel_rfl
 rw [litW 162]
 rotate_left
 kernel_rfl
 rw [litW 166]
 rotate_left
 kernel_rfl
 simp only [Tryz.ntmps367,List.size_toArray,List.length_cons,List.length_nil,Nat.reduceAdd,Nat.reduceSub,Array.replicate_succ,Array.replicate_zero,List.push_toArray,List.append_toArray,List.nil_append,List.cons_append];by_cases h1:l=161
 · subst h1;generalize wB 161=s1;generalize wB 162=s2;generalize wB 166=s6;generalize Zde=s0;go_wp2_with fail
   go_ret2
   exact⟨rfl,Below.refl _ _⟩
 by_cases h2:l=162
 · subst h2;generalize wB 161=s1;generalize wB 162=s2;generalize wB 166=s6;generalize Zde=s0;go_wp2_with fail
   go_ret2
   exact⟨rfl,Below.refl _ _⟩
 by_cases h6:l=166
 · subst h6;generalize wB 161=s1;generalize wB 162=s2;generalize wB 166=s6;generalize Zde=s0;go_wp2_with fail
   go_ret2
   exact⟨rfl,Below.refl _ _⟩
 rw [ho h1 h2 h6];clear ho;generalize wB 161=s1;generalize wB 162=s2;generalize wB 166=s6;generalize Zde=s0;have e1:(l==161)=false:=by simp;omega
 have e2:(l==162)=false:=by simp;omega
 have e6:(l==166)=false:=by simp;omega
 go_wp2_with fail
 go_ret2
 exact⟨rfl,Below.refl _ _⟩
def spC (k:Nat):Int:=(SPN.getD k (0,0,0)).1
def spT (k:Nat):Int:=(SPN.getD k (0,0,0)).2.1
def spN (k:Nat):Int:=(SPN.getD k (0,0,0)).2.2
def ZbM (w:World)(bk:Nat):Prop:=∀k:Nat,k<19→w.cell? ⟨bk,k*3,none⟩=some (.int .i64 (spC k))∧w.cell? ⟨bk,k*3+1,none⟩=some (.int .i32 (spT k))∧w.cell? ⟨bk,k*3+2,none⟩=some (.int .i64 (spN k))
theorem ZbM.keep {w w':World} {bk B:Nat} (h:ZbM w bk)(hb:Below B w w')(hB:w.heap.size≤B):ZbM w' bk:=fun k hk=>by
 obtain⟨a,b,c⟩:=h k hk;have hl:=World.block_lt_of_cell? _ _ a;have hl2:bk<B:=Nat.lt_of_lt_of_le hl hB;exact⟨(hb.cell (p:=⟨bk,_,none⟩) hl2).trans a,(hb.cell (p:=⟨bk,_,none⟩) hl2).trans b,(hb.cell (p:=⟨bk,_,none⟩) hl2).trans c⟩
def SpPost (w0:World)(e:Ending)(w':World):Prop:=∃bk:Nat,e= .returned (.slice (some ⟨bk,0,none⟩) 19 19)∧ZbM w' bk∧Below w0.heap.size w0 w'
theorem lt19 {k:Nat} (h:k<19):k=0∨k=1∨k=2∨k=3∨k=4∨k=5∨k=6∨k=7∨k=8∨k=9∨k=10∨k=11∨k=12∨k=13∨k=14∨k=15∨k=16∨k=17∨k=18:=by omega
def spV:Array Value:=#[.int .i64 41889,.int .i32 65281,.int .i64 59,.int .i64 41948,.int .i32 65510,.int .i64 1,.int .i64 41949,.int .i32 65341,.int .i64 33,.int .i64 41982,.int .i32 65507,.int .i64 1,.int .i64 42145,.int .i32 12593,.int .i64 94,.int .i64 42401,.int .i32 8560,.int .i64 10,.int .i64 42416,.int .i32 8544,.int .i64 10,.int .i64 42433,.int .i32 913,.int .i64 17,.int .i64 42450,.int .i32 931,.int .i64 7,.int .i64 42465,.int .i32 945,.int .i64 17,.int .i64 42482,.int .i32 963,.int .i64 7,.int .i64 43681,.int .i32 12353,.int .i64 83,.int .i64 43937,.int .i32 12449,.int .i64 86,.int .i64 44193,.int .i32 1040,.int .i64 6,.int .i64 44199,.int .i32 1025,.int .i64 1,.int .i64 44200,.int .i32 1046,.int .i64 26,.int .i64 44241,.int .i32 1072,.int .i64 6,.int .i64 44247,.int .i32 1105,.int .i64 1,.int .i64 44248,.int .i32 1078,.int .i64 26]
theorem spV_at {k:Nat} (h:k<19):spV[k*3]? =some (.int .i64 (spC k))∧spV[k*3+1]? =some (.int .i32 (spT k))∧spV[k*3+2]? =some (.int .i64 (spN k)):=by
 rcases lt19 h with rfl|rfl|rfl|rfl|rfl|rfl|rfl|rfl|rfl|rfl|rfl|rfl|rfl|rfl|rfl|rfl|rfl|rfl|rfl<;>exact⟨rfl,rfl,rfl⟩
theorem Zpg (w:World):ZbM (w.alloc (.cells spV 394)) w.heap.size:=fun k hk=>by
 have hc:=fun j=>cell_of_row (w.alloc (.cells spV 394)) w.heap.size j _ 394 (0,0) (heap_alloc_new w _);rw [hc,hc,hc];exact spV_at hk
theorem Zjz (w:World):Calls Tryz.prog 369 #[] w (SpPost w):=by
 have hS:=Zpg w;unfold spV at hS;go_enter Tryz.func369,Tryz.ntmps369
 go_wp2_with fail
 go_ret
 exact⟨_,rfl,hS,(Below.refl _ w).alloc (Nat.le_refl _) _⟩
theorem Zkp {k:Nat} (h:k<19):SPN.drop k=(spC k,spT k,spN k)::SPN.drop (k+1):=by
 have hl:k<SPN.length:=by simpa [SPN] using h
 rw [List.drop_eq_getElem_cons hl];simp only [spC,spT,spN,List.getD_eq_getElem?_getD,List.getElem?_eq_getElem hl,Option.getD_some]
theorem Zs9 {k:Nat} (h:k<19)(code:Int):Zbg (SPN.drop k) code=if spC k≤code∧code<spC k+spN k then spT k+(code - spC k) else Zbg (SPN.drop (k+1)) code:=by
 rw [Zkp h];rfl
theorem Zke {k:Nat} (h:k<19)(p:Int):ZbJ (SPN.drop k) p=if spT k≤p∧p - spT k<spN k then spC k+(p - spT k) else ZbJ (SPN.drop (k+1)) p:=by
 rw [Zkp h];rfl
theorem sp_bd {k:Nat} (h:k<19):41000≤spC k∧spC k≤65535∧1≤spT k∧spT k≤65535∧1≤spN k∧spN k≤94∧spT k+spN k≤65536:=by
 rcases lt19 h with rfl|rfl|rfl|rfl|rfl|rfl|rfl|rfl|rfl|rfl|rfl|rfl|rfl|rfl|rfl|rfl|rfl|rfl|rfl<;>decide+kernel
def OtRel (code:Int)(w0:World)(bk:Nat)(i:Value)(wr:World):Prop:=∃k:Nat,k≤19∧i= .int .i64 k∧Zbg SPN code=Zbg (SPN.drop k) code∧ZbM wr bk∧Below w0.heap.size w0 wr
theorem Zhy {x:Int} (h0:0≤x)(h1:x≤65535):bits .and .i64 x 255=x % 256:=
 bits_mask .i64 63 (by decide) (fun n h0 h1=>by simp [IntKind.wrap,IntKind.bits,IntKind.signed];omega) 8 (by decide) x h0 (by omega)
theorem ZoF (code lead b:Int)(hcb:0≤code∧code≤65535)(e1:bits .and .i64 code 255=b)(e2:code / 256=lead)(hb:161≤b∧b≤254)(h1:lead≠161)(h2:lead≠162)(h6:lead≠166)(w:World):
 Calls Tryz.prog 345 #[.int .i64 code] w fun e w'=>e= .returned (.tuple #[.int .i32 (Zbg SPN code),.bool (decide (Zbg SPN code≠0))])∧Below w.heap.size w w':=by
 have hli:=fun w=>ZgC lead (by omega) w;rw [Zno h1 h2 h6] at hli;unfold Zde at hli;obtain⟨b0,b1⟩:=hb;have d1:decide (b<161)=false:=by simp;omega
 have d2:decide ((254:Int)<b)=false:=by simp;omega
 go_enter Tryz.func345,Tryz.ntmps345
 go_wp2_with (first|(go_at_call 367;refine(hli _).mono ?_;rintro e w1 ⟨rfl,hb1⟩)|(go_at_call 369;refine(Zjz _).mono ?_;rintro e w2 ⟨bk,rfl,hS,hb2⟩))
 have hB2:=hb1.trans (hb2.mono hb1.size);clear hli e1 e2 d1 d2 h1 h2 h6 hb1 hb2;go_loopw [33] (fun i wr=>OtRel code w bk i wr) (fun i _=>19 - (intOf i).toNat)
 case atStart=>exact⟨0,by omega,rfl,rfl,hS,hB2⟩
 case round=>
  obtain⟨k,hk,rfl,heq,hSr,hbr⟩:=hrel;by_cases hk19:k<19
  · have hstep:=Lib.hid (Zs9 hk19 code);obtain⟨c0,c1,c2⟩:=hSr k hk19;have hbd:=sp_bd hk19;generalize spC k=C at*;generalize spT k=T at*;generalize spN k=M at*;by_cases hC:C≤code
    · by_cases hM:code<C+M
      · have hval:=Lib.hid (show Zbg SPN code=T+(code - C) by rw [heq,hstep.out,if_pos ⟨hC,hM⟩]);clear heq hstep;go_wp2_with fail
        go_ret2
        refine⟨?_,hbr.alloc hbr.size _⟩;have hne:T+(code - C)≠0:=by omega
        show Ending.returned (.tuple #[.int .i32 (T+(code - C)),.bool true])=_
        rw [hval.out,decide_eq_true hne]
      · have hd:decide (code<C+M)=false:=by simpa using hM
        have hval:=Lib.hid (show Zbg SPN code=Zbg (SPN.drop (k+1)) code by rw [heq,hstep.out,if_neg (fun h=>hM h.2)]);clear heq hstep;go_wp2_with fail
        go_roundw
        case rel=>exact⟨k+1,by omega,by go_num,hval.out,ZbM.keep hSr ((Below.refl _ _).alloc (Nat.le_refl _) _) (Nat.le_refl _),hbr.alloc hbr.size _⟩
        case measure=>simp [intOf];omega
    · have hd:decide (C≤code)=false:=by simpa using hC
      have hval:=Lib.hid (show Zbg SPN code=Zbg (SPN.drop (k+1)) code by rw [heq,hstep.out,if_neg (fun h=>hC h.1)]);clear heq hstep;go_wp2_with fail
      go_roundw
      case rel=>exact⟨k+1,by omega,by go_num,hval.out,ZbM.keep hSr ((Below.refl _ _).alloc (Nat.le_refl _) _) (Nat.le_refl _),hbr.alloc hbr.size _⟩
      case measure=>simp [intOf];omega
  · have hk2:k=19:=by omega
    subst hk2;have hend:=Lib.hid (show Zbg SPN code=0 by rw [heq];rfl);clear hk19 heq;go_wp2_with fail
    go_ret2
    rw [hend.out];exact⟨rfl,hbr⟩
theorem ZoE (code:Int)(hcb:0≤code∧code≤65535)(hb:code % 256<161∨254<code % 256)(w:World):
 Calls Tryz.prog 345 #[.int .i64 code] w fun e w'=>e= .returned (.tuple #[.int .i32 0,.bool false])∧Below w.heap.size w w':=by
 have e1:=Zhy hcb.1 hcb.2;generalize code % 256=b at*;rcases hb with hb|hb
 · have d1:decide (b<161)=true:=by simpa using hb
   go_enter Tryz.func345,Tryz.ntmps345
   go_wp2_with fail
   go_ret2
   exact⟨rfl,Below.refl _ _⟩
 · have d1:decide (b<161)=false:=by simp;omega
   have d2:decide ((254:Int)<b)=true:=by simpa using hb
   go_enter Tryz.func345,Tryz.ntmps345
   go_wp2_with fail
   go_ret2
   exact⟨rfl,Below.refl _ _⟩
theorem Zpv (s:ByteArray)(ps:List Int)(h:Zb1 s ps)(k:Int)(hs:s.size≤100000)(hkb: -100000≤k∧k≤100000)(w:World):
 Calls Tryz.prog 368 #[.string s,.int .i64 k] w fun e w'=>e= .returned (.tuple #[.int .i32 (if 0≤k∧k<ps.length then ps.getD k.toNat 0 else 0),.bool (decide (0≤k∧k<ps.length))])∧Below w.heap.size w w':=by
 by_cases hk:0≤k∧k<ps.length
 · have:=Zny s ps h k.toNat (by omega) hs w;have e:((k.toNat:Nat):Int)=k:=by omega
   rw [e] at this;simp only [hk,and_self,if_true,decide_true];exact this
 · have:=Znz s ps h k (by omega) hs hkb w;simp only [if_neg hk,decide_eq_false hk];exact this
theorem Zh0 (l:Int):∀p∈Zq l,0<p∧p≤65535:=by
 intro p hp;have h:=List.all_eq_true.1 Zsj p;simp only [Bool.and_eq_true,decide_eq_true_eq] at h;refine h ?_;unfold Zq at hp;simp only [List.mem_append];split at hp
 · exact .inl (.inl hp)
 · split at hp
   · exact .inl (.inr hp)
   · split at hp
     · exact .inr hp
     · cases hp
theorem Zln (l:Int):(Zq l).length≤94:=by
 obtain⟨a,b,c⟩:=Zlm;unfold Zq;split
 · omega
 · split
   · omega
   · split
     · omega
     · simp
theorem Zk8 (l:Int):Zb1 (wB l) (Zq l)∧(wB l).size≤100000:=by
 have hx:Zb1 (wB l) (Zq l):=⟨by simp [wB],fun p hp=>by have:=Zh0 l p hp;omega⟩
 refine⟨hx,?_⟩;have:=Zln l;rw [hx.size];omega
theorem ZkW (l:Int)(h:l=161∨l=162∨l=166):(Zq l).isEmpty=false∧0<(Zq l).length:=by
 rcases h with rfl|rfl|rfl<;>decide+kernel
theorem ne_nil {s:ByteArray} (h:0<s.size):s.toList.isEmpty=false:=by
 rw [ByteArray.toList_eq];have hl:s.data.toList.length=s.size:=by simp
 generalize s.data.toList=l at*
 match l,hl with
 |[],hl=>simp at hl;omega
 |_::_,_=>rfl
theorem ZoD (code lead b:Int)(hcb:0≤code∧code≤65535)(hcd:code=lead*256+b)(hb:161≤b∧b≤254)(hl:lead=161∨lead=162∨lead=166)(w:World):
 Calls Tryz.prog 345 #[.int .i64 code] w fun e w'=>e= .returned (.tuple #[.int .i32 ((Zq lead).getD (b - 161).toNat 0),.bool (decide ((Zq lead).getD (b - 161).toNat 0≠0))])∧Below w.heap.size w w':=by
 have e1:=Zhy hcb.1 hcb.2;have e2:code / 256=lead:=by omega
 have e3:code % 256=b:=by omega
 have e4:code - (lead*256+161)=b - 161:=by omega
 rw [e3] at e1;have hli:=fun w=>ZgC lead (by omega) w;obtain⟨hx,hsz⟩:=Zk8 lead;have hat:=fun w=>Zpv (wB lead) (Zq lead) hx (b - 161) hsz (by omega) w;have hne:=ne_nil (s:=wB lead) (by have:=(ZkW lead hl).2;rw [hx.size];omega);have hval:(if 0≤b - 161∧b - 161<(Zq lead).length then(Zq lead).getD (b - 161).toNat 0 else 0)=(Zq lead).getD (b - 161).toNat 0∧decide (0≤b - 161∧b - 161<(Zq lead).length)=decide ((Zq lead).getD (b - 161).toNat 0≠0):=by
  by_cases hin:b - 161<(Zq lead).length
  · have:=Zh0 lead _ (Zc9 (ps:=Zq lead) (k:=(b - 161).toNat) (by omega));refine⟨if_pos ⟨by omega,hin⟩,?_⟩;rw [decide_eq_true (⟨by omega,hin⟩:0≤b - 161∧b - 161<(Zq lead).length),decide_eq_true (by omega)]
  · have h0:(Zq lead).getD (b - 161).toNat 0=0:=by
     rw [List.getD_eq_getElem?_getD,List.getElem?_eq_none (by omega)];rfl
    rw [h0];refine⟨if_neg (fun h=>hin h.2),?_⟩;rw [decide_eq_false (fun h=>hin h.2)];rfl
 rw [hval.1,hval.2] at hat;clear hval hx hsz e3;generalize wB lead=s at*;generalize decide ((Zq lead).getD (b - 161).toNat 0≠0)=ok at*;generalize (Zq lead).getD (b - 161).toNat 0=v at*;obtain⟨b0,b1⟩:=hb;have d1:decide (b<161)=false:=by simp;omega
 have d2:decide ((254:Int)<b)=false:=by simp;omega
 clear hcd hl;go_enter Tryz.func345,Tryz.ntmps345
 go_wp2_with (first|(go_at_call 367;refine(hli _).mono ?_;rintro e w1 ⟨rfl,hb1⟩)|(go_at_call 368;refine(hat _).mono ?_;rintro e w2 ⟨rfl,hb2⟩))
 go_ret2
 exact⟨rfl,hb1.trans (hb2.mono hb1.size)⟩
theorem ZoC (lead b:Int)(hl:0≤lead∧lead≤255)(hb:0≤b∧b≤255)(w:World):
 Calls Tryz.prog 345 #[.int .i64 (lead*256+b)] w fun e w'=>e= .returned (.tuple #[.int .i32 (ZcN lead b),.bool (decide (ZcN lead b≠0))])∧Below w.heap.size w w':=by
 unfold ZcN;by_cases hlo:b<161∨254<b
 · rw [if_pos hlo];exact ZoE _ (by omega) (by omega) w
 · rw [if_neg hlo];by_cases h:lead=161∨lead=162∨lead=166
   · rw [(ZkW lead h).1];exact ZoD _ lead b (by omega) rfl (by omega) h w
   · have e:(Zq lead).isEmpty=true:=by
      unfold Zq;rw [if_neg (fun e=>h (.inl e)),if_neg (fun e=>h (.inr (.inl e))),if_neg (fun e=>h (.inr (.inr e)))];rfl
     rw [e];have e1:=Zhy (x:=lead*256+b) (by omega) (by omega);rw [show(lead*256+b) % 256=b by omega] at e1;exact ZoF _ lead b (by omega) e1 (by omega) (by omega) (fun e=>h (.inl e)) (fun e=>h (.inr (.inl e))) (fun e=>h (.inr (.inr e))) w
def ML (w:World):Prop:=∃m:Int,w.cell? ⟨3,0,none⟩=some (.int .i64 m)
theorem Zdt {w w':World} {B:Nat} (h:ML w)(hb:Below B w w')(hB:w.heap.size≤B):ML w':=by
 obtain⟨m,hm⟩:=h;exact⟨m,(hb.cell (p:=⟨_,0,none⟩) (Nat.lt_of_lt_of_le (World.block_lt_of_cell? _ _ hm) hB)).trans hm⟩
theorem Zpz (l p:Int)(w:World)(hm:ML w):
 Calls Tryz.prog 379 #[.string (wB l),.int .i32 p] w fun e w'=>e= .returned (.int .i64 (ZcH (Zq l) p))∧Below w.heap.size w w':=by
 obtain⟨m,hm⟩:=hm;obtain⟨hx,hsz⟩:=Zk8 l;exact Zod (wB l) (Zq l) hx p hsz w m hm
theorem ZqP (l p:Int):ZcH (Zq l) p=fnd (Zq l) p:=by
 unfold ZcH;split
 · rename_i h
   symm
   rw [ZqW];intro hp;have:=Zh0 l p hp;omega
 · rfl
def Zdb (p:Int):Nat→Int→Int
 |0,_=>ZbJ SPN p
 |n+1,l=>if 0≤fnd (Zq l) p then l*256+161+fnd (Zq l) p else Zdb p n (l+1)
theorem Zp8 (p:Int):Z4 p=Zdb p 6 161:=by
 have e:∀l:Int,l=163∨l=164∨l=165→¬0≤fnd (Zq l) p:=by
  rintro l (rfl|rfl|rfl)<;>simp [Zq,fnd]
 unfold Z4;simp only [Zdb];rw [if_neg (e (161+1+1) (.inl rfl)),if_neg (e (161+1+1+1) (.inr (.inl rfl))),if_neg (e (161+1+1+1+1) (.inr (.inr rfl)))];rfl
def OcRel (p:Int)(w0:World)(l:Value)(wr:World):Prop:=∃k:Nat,k≤6∧l= .int .i64 (161+(k:Int))∧Z4 p=Zdb p (6 - k) (161+(k:Int))∧Below w0.heap.size w0 wr
def OsRel (p:Int)(w0:World)(bk:Nat)(i:Value)(wr:World):Prop:=∃k:Nat,k≤19∧i= .int .i64 k∧Z4 p=ZbJ (SPN.drop k) p∧ZbM wr bk∧Below w0.heap.size w0 wr
def ZgF (p:Int)(w0:World)(e:Ending)(w':World):Prop:=e= .returned (.tuple #[.int .i64 (if 0≤Z4 p then Z4 p else 0),.bool (decide (0≤Z4 p))])∧Below w0.heap.size w0 w'
theorem ZoB (p:Int)(hp: -2147483648≤p∧p≤2147483647)(w:World)(hm:ML w):
 Calls Tryz.prog 356 #[.int .i32 p] w (ZgF p w):=by
 obtain⟨p0,p1⟩:=hp;generalize hP:ZgF p w=P at*;go_enter Tryz.func356,Tryz.ntmps356
 go_wp2_with fail
 go_loopw [4] (fun l wr=>OcRel p w l wr) (fun l _=>167 - (intOf l).toNat)
 case atStart=>exact⟨0,by omega,rfl,Zp8 p,Below.refl _ _⟩
 case round=>
  obtain⟨k,hk,rfl,heq,hb⟩:=hrel;by_cases hk6:k<6
  · have hli:=fun w=>ZgC (161+(k:Int)) (by omega) w;have hfi:=fun w=>Zpz (161+(k:Int)) p w;have hge:=Zfx (Zq (161+(k:Int))) p;have hlt:=Zen (Zq (161+(k:Int))) p;have hll:=Zln (161+(k:Int));have hstep:Zdb p (6 - k) (161+(k:Int))=if 0≤fnd (Zq (161+(k:Int))) p then(161+(k:Int))*256+161+fnd (Zq (161+(k:Int))) p else Zdb p (6 - (k+1)) (161+((k+1:Nat):Int)):=by
     rw [show 6 - k=6 - (k+1)+1 by omega,show(161:Int)+((k+1:Nat):Int)=161+(k:Int)+1 by omega];rfl
    simp only [ZqP] at hfi;have Hs:=Lib.hid (heq.trans hstep);clear heq hstep;generalize fnd (Zq (161+(k:Int))) p=f at*;have hlen:f<94:=by omega
    clear hlt hll;by_cases hf:0≤f
    · have hval:=Lib.hid (show Z4 p=(161+(k:Int))*256+161+f by rw [Hs.out,if_pos hf]);clear Hs;go_wp2_with (first|(go_at_call 367;refine(hli _).mono ?_;rintro e w1 ⟨rfl,hb1⟩)|(go_at_call 379;refine(hfi _ (Zdt hm (hb.trans (hb1.mono hb.size)) (Nat.le_refl _))).mono ?_;rintro e w2 ⟨rfl,hb2⟩))
      show P (.returned (.tuple #[.int .i64 ((161+(k:Int))*256+161+f),.bool true])) w2
      rw [←hP];refine⟨?_,(hb.trans (hb1.mono hb.size)).trans (hb2.mono (Nat.le_trans hb.size hb1.size))⟩;show Ending.returned (.tuple #[.int .i64 ((161+(k:Int))*256+161+f),.bool true])=_
      have h0:0≤(161+(k:Int))*256+161+f:=by omega
      rw [hval.out,if_pos h0,decide_eq_true h0]
    · have hval:=Lib.hid (show Z4 p=Zdb p (6 - (k+1)) (161+((k+1:Nat):Int)) by rw [Hs.out,if_neg hf]);clear Hs;go_wp2_with (first|(go_at_call 367;refine(hli _).mono ?_;rintro e w1 ⟨rfl,hb1⟩)|(go_at_call 379;refine(hfi _ (Zdt hm (hb.trans (hb1.mono hb.size)) (Nat.le_refl _))).mono ?_;rintro e w2 ⟨rfl,hb2⟩))
      go_roundw
      case rel=>exact⟨k+1,by omega,by congr 1,hval.out,(hb.trans (hb1.mono hb.size)).trans (hb2.mono (Nat.le_trans hb.size hb1.size))⟩
      case measure=>simp [intOf];omega
  · have hk2:k=6:=by omega
    subst hk2;have heq2:Z4 p=ZbJ SPN p:=heq;have Heq:=Lib.hid heq2;clear heq heq2 hk6 hk;go_wp2_with (first|(go_at_call 369;refine(Zjz _).mono ?_;rintro e w2 ⟨bk,rfl,hS,hb2⟩))
    have hB2:=hb.trans (hb2.mono hb.size);clear hb hb2;go_loopw [29] (fun i wr=>OsRel p w bk i wr) (fun i _=>19 - (intOf i).toNat)
    case atStart=>exact⟨0,by omega,rfl,Heq.out,hS,hB2⟩
    case round=>
     obtain⟨k,hk,rfl,heq,hSr,hbr⟩:=hrel;by_cases hk19:k<19
     · have hstep:=Lib.hid (Zke hk19 p);obtain⟨c0,c1,c2⟩:=hSr k hk19;have hbd:=sp_bd hk19;generalize spC k=C at*;generalize spT k=T at*;generalize spN k=M at*;by_cases hC:T≤p
       · by_cases hM:p - T<M
         · have hval:=Lib.hid (show Z4 p=C+(p - T) by rw [heq,hstep.out,if_pos ⟨hC,hM⟩]);clear heq hstep Heq;go_wp2_with fail
           show P (.returned (.tuple #[.int .i64 (C+(p - T)),.bool true])) _
           rw [←hP];refine⟨?_,hbr.alloc hbr.size _⟩;have h0:0≤C+(p - T):=by omega
           show Ending.returned (.tuple #[.int .i64 (C+(p - T)),.bool true])=_
           rw [hval.out,if_pos h0,decide_eq_true h0]
         · have hd:decide (p - T<M)=false:=by simpa using hM
           have hval:=Lib.hid (show Z4 p=ZbJ (SPN.drop (k+1)) p by rw [heq,hstep.out,if_neg (fun h=>hM h.2)]);clear heq hstep Heq;go_wp2_with fail
           go_roundw
           case rel=>exact⟨k+1,by omega,by go_num,hval.out,ZbM.keep hSr ((Below.refl _ _).alloc (Nat.le_refl _) _) (Nat.le_refl _),hbr.alloc hbr.size _⟩
           case measure=>simp [intOf];omega
       · have hd:decide (T≤p)=false:=by simpa using hC
         have hval:=Lib.hid (show Z4 p=ZbJ (SPN.drop (k+1)) p by rw [heq,hstep.out,if_neg (fun h=>hC h.1)]);clear heq hstep Heq;go_wp2_with fail
         go_roundw
         case rel=>exact⟨k+1,by omega,by go_num,hval.out,ZbM.keep hSr ((Below.refl _ _).alloc (Nat.le_refl _) _) (Nat.le_refl _),hbr.alloc hbr.size _⟩
         case measure=>simp [intOf];omega
     · have hk2:k=19:=by omega
       subst hk2;have hend:=Lib.hid (show Z4 p= -1 by rw [heq];rfl);clear hk19 heq Heq;go_wp2_with fail
       show P (.returned (.tuple #[.int .i64 0,.bool false])) _
       rw [←hP];refine⟨?_,hbr⟩;show Ending.returned (.tuple #[.int .i64 0,.bool false])=_
       rw [hend.out];rfl
def ZbL (k:Int)(b:Bool)(p:Int):Prop:=(k<0∧p=0)∨(0≤k∧Zc1 k.toNat b p)
theorem ZhF {k:Int} {b:Bool} {p q:Int} (h1:ZbL k b p)(h2:ZbL k b q):p=q:=by
 rcases h1 with⟨a,rfl⟩|⟨a,h1⟩<;>rcases h2 with⟨c,rfl⟩|⟨c,h2⟩
 · rfl
 · omega
 · omega
 · exact Zrl h1 h2
theorem Zli {k:Int} {b:Bool} {p:Int} (h:ZbL k b p):p≠0↔(0≤k∧k<(if b then 2350 else 8822)):=by
 rcases h with⟨a,rfl⟩|⟨a,h⟩
 · constructor
   · intro h;exact absurd rfl h
   · intro h;omega
 · have:=kth_ne h;rw [Zp6] at this;cases b<;>simp only [Bool.false_eq_true,if_false,if_true] at this⊢<;>rw [this]<;>omega
def Zgw (k:Int)(b:Bool)(w0:World)(e:Ending)(w':World):Prop:=∃p,e= .returned (.tuple #[.int .i32 p,.bool (p !=0)])∧ZbL k b p∧Below w0.heap.size w0 w'
theorem ZiS (k:Int)(hk:k≤9223372036854775807)(b:Bool)(w:World)(hD:DB w):
 Calls Tryz.prog 346 #[.int .i64 k,.bool b] w (Zgw k b w):=by
 by_cases h0:k<0
 · exact(ZnV k h0 b w).mono fun e w' h=>⟨0,h.1,.inl ⟨h0,rfl⟩,h.2⟩
 · have:=ZnU k.toNat (by omega) b w hD;rw [show((k.toNat:Nat):Int)=k by omega] at this;exact this.mono fun e w' ⟨p,h1,h2,h3⟩=>⟨p,h1,.inr ⟨by omega,h2⟩,h3⟩
theorem ZoI (k:Int)(hk:k≤9223372036854775807)(w:World)(hD:DB w):
 Calls Tryz.prog 344 #[.int .i64 k] w (Zgw k true w):=by
 have hc:=fun w=>ZiS k hk true w;go_enter Tryz.func344,Tryz.ntmps344
 go_wp2_with (first|(go_at_call 346;refine(hc _ hD).mono ?_;rintro e w1 ⟨p,rfl,hp,hb1⟩))
 go_ret2
 exact⟨p,rfl,hp,hb1⟩
theorem ZiY (k:Int)(hk:k≤9223372036854775807)(w:World)(hD:DB w):
 Calls Tryz.prog 309 #[.int .i64 k] w (Zgw k false w):=by
 have hc:=fun w=>ZiS k hk false w;go_enter Tryz.func309,Tryz.ntmps309
 go_wp2_with (first|(go_at_call 346;refine(hc _ hD).mono ?_;rintro e w1 ⟨p,rfl,hp,hb1⟩))
 go_ret2
 exact⟨p,rfl,hp,hb1⟩
def ZV (b:Int):Int:=if 65≤b∧b≤90 then b - 65 else if 97≤b∧b≤122 then b - 97+26 else if 129≤b∧b≤254 then b - 129+52 else -1
def Zbp (n:Int):Int:=if n<26 then 65+n else if n<52 then 97+n - 26 else 129+n - 52
theorem Zox (b:Int)(hb: -1000≤b∧b≤1000)(w:World):
 Calls Tryz.prog 307 #[.int .i64 b] w fun e w'=>e= .returned (.int .i64 (ZV b))∧Below w.heap.size w w':=by
 have h0:=hb.1;have h1:=hb.2;go_enter Tryz.func307,Tryz.ntmps307
 go_wp2
 all_goals go_ret
 all_goals refine⟨ZaC ?_,Below.refl _ _⟩
 all_goals unfold ZV
 all_goals repeat' split
 all_goals omega
theorem ZiM (n:Int)(hn:0≤n∧n≤1000)(w:World):
 Calls Tryz.prog 355 #[.int .i64 n] w fun e w'=>e= .returned (.int .i64 (Zbp n))∧Below w.heap.size w w':=by
 have h0:=hn.1;have h1:=hn.2;go_enter Tryz.func355,Tryz.ntmps355
 go_wp2
 all_goals go_ret
 all_goals refine⟨ZaC ?_,Below.refl _ _⟩
 all_goals unfold Zbp
 all_goals repeat' split
 all_goals omega
theorem ZsT (b:Int): -1≤ZV b∧ZV b≤177:=by
 unfold ZV
 repeat' split
 all_goals omega
theorem ZmJ {n:Int} (h:0≤n∧n<178):ZV (Zbp n)=n∧65≤Zbp n∧Zbp n≤254∧(n<84→Zbp n<161):=by
 unfold ZV Zbp
 repeat' split
 all_goals omega
def ZaX (lead b p:Int):Prop:=if b=255 then p=0 else if 176≤lead∧lead≤200 then ZbL ((lead - 176)*94+b - 161) true p else p=ZcN lead b
def Zjn (lead b:Int)(w0:World)(e:Ending)(w':World):Prop:=∃p,e= .returned (.tuple #[.int .i32 p,.bool (p !=0)])∧ZaX lead b p∧Below w0.heap.size w0 w'
theorem ZrE (p:Int):(!decide (p=0))=(p !=0):=by
 by_cases h:p=0<;>simp [h]
theorem ZpA (lead b:Int)(hl:161≤lead∧lead≤254)(hb:161≤b∧b≤255)(w:World)(hD:DB w):
 Calls Tryz.prog 308 #[.int .i64 (lead - 161),.int .i64 (b - 161)] w (Zjn lead b w):=by
 generalize hP:Zjn lead b w=P at*;by_cases h255:b=255
 · have hd:decide ((94:Int)≤b - 161)=true:=by simp;omega
   go_enter Tryz.func308,Tryz.ntmps308
   go_wp2_with fail
   show P (.returned (.tuple #[.int .i32 0,.bool false])) w
   rw [←hP];exact⟨0,rfl,by unfold ZaX;rw [if_pos h255],Below.refl _ _⟩
 · have hd:decide ((94:Int)≤b - 161)=false:=by simp;omega
   have hR:∀p,ZaX lead b p↔(if 176≤lead∧lead≤200 then ZbL ((lead - 176)*94+b - 161) true p else p=ZcN lead b):=fun p=>by unfold ZaX;rw [if_neg h255]
   have hpl:=fun w=>ZoI ((lead - 161)*94+(b - 161) - 1410) (by omega) w;have hot:=fun w=>ZoC lead b (by omega) (by omega) w;have he:(lead - 161)*94+(b - 161) - 1410=(lead - 176)*94+b - 161:=by omega
   have hor:bits .or .i64 ((lead - 161+161)*256) (b - 161+161)=lead*256+b:=by
    rw [show lead - 161+161=lead by omega,show b - 161+161=b by omega];exact ZdI (by omega) (by omega) (by omega) (by omega)
   have He:=Lib.hid he;have HR:=Lib.hid hR;clear hR he;generalize hf:lead - 161=f at*;generalize hs:b - 161=s at*;have Hf:=Lib.hid hf;have Hs:=Lib.hid hs;have f0:0≤f∧f≤93:=by omega
   have s0:0≤s∧s≤93:=by omega
   clear hf hs;go_enter Tryz.func308,Tryz.ntmps308
   go_wp2_with (first|(go_at_call 344;refine(hpl _ hD).mono ?_;rintro e w1 ⟨p,rfl,hp,hb1⟩)|(go_at_call 345;refine(hot _).mono ?_;rintro e w2 ⟨rfl,hb2⟩))
   · rename_i hne
     have hne2:p≠0:=by simpa using hne
     have hk:=(Zli hp).1 hne2;simp only [if_true] at hk;have hrng:176≤lead∧lead≤200:=by have:=Hf.out;have:=Hs.out;omega
     show P (.returned (.tuple #[.int .i32 p,.bool true])) w1
     rw [←hP];exact⟨p,by rw [hne],(HR.out p).2 (by rw [if_pos hrng,←He.out];exact hp),hb1⟩
   · rename_i hne
     have hne2:¬(p≠0):=by simpa using hne
     have hk:=fun h=>hne2 ((Zli hp).2 h);simp only [if_true] at hk;have hrng:¬(176≤lead∧lead≤200):=by
      intro h;have:=Hf.out;have:=Hs.out;exact hk (by omega)
     show P (.returned (.tuple #[.int .i32 (ZcN lead b),.bool (!decide (ZcN lead b=0))])) w2
     rw [←hP];exact⟨ZcN lead b,by rw [ZrE],(HR.out _).2 (by rw [if_neg hrng]),hb1.trans (hb2.mono hb1.size)⟩
def ZS (lead b p:Int):Prop:=if ZV b<0∨lead<129∨254<lead then p=0 else if lead<161 then ZbL ((lead - 129)*178+ZV b) false p else if b<161 then ZbL (5696+(lead - 161)*84+ZV b) false p else ZaX lead b p
def Zjs (lead b:Int)(w0:World)(e:Ending)(w':World):Prop:=∃p,e= .returned (.tuple #[.int .i32 p,.bool (p !=0)])∧ZS lead b p∧Below w0.heap.size w0 w'
theorem Zo6 (lead b:Int)(hl:0≤lead∧lead≤255)(hb:0≤b∧b≤255)(w:World)(hD:DB w):
 Calls Tryz.prog 257 #[.int .u8 lead,.int .u8 b] w (Zjs lead b w):=by
 generalize hP:Zjs lead b w=P at*;have hnum:=fun w=>Zox b (by omega) w;have hsb:=ZsT b;obtain⟨l0,l1⟩:=hl;obtain⟨b0,b1⟩:=hb;by_cases hA:lead<129∨254<lead
 · have hr:ZS lead b 0:=by unfold ZS;rw [if_pos (by omega)]
   have Hr:=Lib.hid hr;clear hr;generalize ZV b=n at*;rcases hA with h|h
   · go_enter Tryz.func257,Tryz.ntmps257
     go_wp2_with (first|(go_at_call 307;refine(hnum _).mono ?_;rintro e w1 ⟨rfl,hb1⟩))
     show P (.returned (.tuple #[.int .i32 0,.bool false])) _
     rw [←hP];exact⟨0,rfl,Hr.out,hb1⟩
   · have h2:¬lead<129:=by omega
     go_enter Tryz.func257,Tryz.ntmps257
     go_wp2_with (first|(go_at_call 307;refine(hnum _).mono ?_;rintro e w1 ⟨rfl,hb1⟩))
     show P (.returned (.tuple #[.int .i32 0,.bool false])) _
     rw [←hP];exact⟨0,rfl,Hr.out,hb1⟩
 have hA1:¬lead<129:=by omega
 have hA2:¬254<lead:=by omega
 by_cases hB:161≤lead∧161≤b
 · obtain⟨h1,h2⟩:=hB;have hro:=fun w=>ZpA lead b (by omega) (by omega) w;have hr:∀p,ZaX lead b p→ZS lead b p:=by
    intro p hp;unfold ZS;by_cases h255:b=255
    · unfold ZaX at hp;rw [if_pos h255] at hp;rw [if_pos (by left;subst h255;decide)];exact hp
    · rw [if_neg,if_neg (by omega),if_neg (by omega)]
      · exact hp
      · have:0≤ZV b:=by
         unfold ZV;rw [if_neg (by omega),if_neg (by omega),if_pos (by omega)];omega
        omega
   have Hr:=Lib.hid hr;clear hr;generalize ZV b=n at*;have hge:0≤lead - 161:=by omega
   go_enter Tryz.func257,Tryz.ntmps257
   go_wp2_with (first|(go_at_call 307;refine(hnum _).mono ?_;rintro e w1 ⟨rfl,hb1⟩)|(go_at_call 308;refine(hro _ (Zdr hD hb1 (Nat.le_refl _))).mono ?_;rintro e w2 ⟨p,rfl,hp,hb2⟩))
   show P (.returned (.tuple #[.int .i32 p,.bool (p !=0)])) _
   rw [←hP];exact⟨p,rfl,Hr.out p hp,hb1.trans (hb2.mono hb1.size)⟩
 by_cases hC:ZV b<0
 · have hr:ZS lead b 0:=by unfold ZS;rw [if_pos (by omega)]
   have Hr:=Lib.hid hr;clear hr;generalize ZV b=n at*;by_cases h1:161≤lead
   · have hge:decide (0≤lead - 161)=true:=by simp;omega
     have h2:¬161≤b:=by omega
     go_enter Tryz.func257,Tryz.ntmps257
     go_wp2_with (first|(go_at_call 307;refine(hnum _).mono ?_;rintro e w1 ⟨rfl,hb1⟩))
     show P (.returned (.tuple #[.int .i32 0,.bool false])) _
     rw [←hP];exact⟨0,rfl,Hr.out,hb1⟩
   · have hge:decide (0≤lead - 161)=false:=by simp;omega
     go_enter Tryz.func257,Tryz.ntmps257
     go_wp2_with (first|(go_at_call 307;refine(hnum _).mono ?_;rintro e w1 ⟨rfl,hb1⟩))
     show P (.returned (.tuple #[.int .i32 0,.bool false])) _
     rw [←hP];exact⟨0,rfl,Hr.out,hb1⟩
 by_cases hE:lead<161
 · have hr:∀p,ZbL ((lead - 129)*178+ZV b) false p→ZS lead b p:=by
    intro p hp;unfold ZS;rw [if_neg (by omega),if_pos hE];exact hp
   have hex:=fun w=>ZiY ((lead - 129)*178+ZV b) (by omega) w;have Hr:=Lib.hid hr;clear hr;generalize ZV b=n at*;have hge:decide (0≤lead - 161)=false:=by simp;omega
   have hge2:decide (lead - 161<0)=true:=by simp;omega
   go_enter Tryz.func257,Tryz.ntmps257
   go_wp2_with (first|(go_at_call 307;refine(hnum _).mono ?_;rintro e w1 ⟨rfl,hb1⟩)|(go_at_call 309;refine(hex _ (Zdr hD hb1 (Nat.le_refl _))).mono ?_;rintro e w2 ⟨p,rfl,hp,hb2⟩))
   show P (.returned (.tuple #[.int .i32 p,.bool (p !=0)])) _
   rw [←hP];exact⟨p,rfl,Hr.out p hp,hb1.trans (hb2.mono hb1.size)⟩
 · have hr:∀p,ZbL (5696+(lead - 161)*84+ZV b) false p→ZS lead b p:=by
    intro p hp;unfold ZS;rw [if_neg (by omega),if_neg hE,if_pos (by omega)];exact hp
   have hex:=fun w=>ZiY (5696+(lead - 161)*84+ZV b) (by omega) w;have Hr:=Lib.hid hr;clear hr;generalize ZV b=n at*;have hge:decide (0≤lead - 161)=true:=by simp;omega
   have hge2:decide (lead - 161<0)=false:=by simp;omega
   have h2:¬161≤b:=by omega
   go_enter Tryz.func257,Tryz.ntmps257
   go_wp2_with (first|(go_at_call 307;refine(hnum _).mono ?_;rintro e w1 ⟨rfl,hb1⟩)|(go_at_call 309;refine(hex _ (Zdr hD hb1 (Nat.le_refl _))).mono ?_;rintro e w2 ⟨p,rfl,hp,hb2⟩))
   show P (.returned (.tuple #[.int .i32 p,.bool (p !=0)])) _
   rw [←hP];exact⟨p,rfl,Hr.out p hp,hb1.trans (hb2.mono hb1.size)⟩
end Go.Proofs.YtlglfmbccihopaaGreatDoor
