/- Lemmas for a statement on the tops; conditions: as each says. -/
import Derived.Test.YtlfinljfghhpdaaGreatDoorM33
set_option linter.unusedVariables false
set_option linter.unusedSimpArgs false
set_option maxRecDepth 100000
set_option maxHeartbeats 4000000
namespace Go.Proofs.YtlfinljfghhpdaaGreatDoor
open Go Go.RowKit
def ZhY:Array Value:=#[.string ⟨#[108,97,116,105,110,49]⟩,.string ⟨#[105,115,111,45,56,56,53,57,45,49]⟩,.string ⟨#[108,97,116,105,110,45,49]⟩,.string ⟨#[107,111,105,56,45,114]⟩,.string ⟨#[107,111,105,56,114]⟩,.string ⟨#[]⟩,.string ⟨#[107,111,105,56,45,117]⟩,.string ⟨#[107,111,105,56,117]⟩,.string ⟨#[]⟩,.string ⟨#[99,112,56,54,54]⟩,.string ⟨#[105,98,109,56,54,54]⟩,.string ⟨#[]⟩,.string ⟨#[99,112,57,52,57]⟩,.string ⟨#[101,117,99,45,107,114]⟩,.string ⟨#[117,104,99]⟩,.string ⟨#[106,111,104,97,98]⟩,.string ⟨#[99,112,49,51,54,49]⟩,.string ⟨#[]⟩,.string ⟨#[98,105,103,53,45,104,107,115,99,115]⟩,.string ⟨#[98,105,103,53]⟩,.string ⟨#[]⟩,.string ⟨#[117,116,102,45,56]⟩,.string ⟨#[117,116,102,56]⟩,.string ⟨#[]⟩,.string ⟨#[117,116,102,45,49,54,108,101]⟩,.string ⟨#[117,116,102,49,54,108,101]⟩,.string ⟨#[]⟩,.string ⟨#[117,116,102,45,49,54,98,101]⟩,.string ⟨#[117,116,102,49,54,98,101]⟩,.string ⟨#[]⟩]
theorem ZoF (w:World):Calls Tryz.prog 227 #[] w fun e w'=>e= .returned (.agg ZhY)∧Below w.heap.size w w':=by
 go_enter Tryz.func227,Tryz.ntmps227
 go_wp2_with (first|(refine ZlP rfl 258 _ ZhY rfl (by kernel_rfl) ?_)|(refine wpList_store_row rfl 258 _ _ rfl w.heap.size ZhY rfl rfl _ _ (heap_alloc_new w _) (by kernel_rfl) (by rfl) (by kernel_rfl) ?_;rw [World.setRow_alloc_new]))
 refine bodyPost_ret (results_cell_row rfl _ _ w.heap.size _ _ _ _ rfl (heap_alloc_new w _) Tryz.underlying258 rfl (by kernel_rfl)) rfl ⟨rfl,(Below.refl _ w).alloc (Nat.le_refl _) _⟩
def nmR0 (k:Nat):List UInt8:=(Zau.getD k []).getD 0 []
def nmR1 (k:Nat):List UInt8:=(Zau.getD k []).getD 1 []
def nmR2 (k:Nat):List UInt8:=(Zau.getD k []).getD 2 []
def ZoD (V:Value):Prop:=∀k:Nat,k<10→∀w,(Instr.index 258 V (.int .i64 k)).run Tryz.prog w= .ok (.agg #[.string (B (nmR0 k)),.string (B (nmR1 k)),.string (B (nmR2 k))]) w
theorem ZoE (w:World):Calls Tryz.prog 227 #[] w fun e w'=>∃V,e= .returned V∧ZoD V∧Below w.heap.size w w':=
 (ZoF w).mono fun _ _ h=>⟨_,h.1,fun k hk w=>by
  rcases(show k=0∨k=1∨k=2∨k=3∨k=4∨k=5∨k=6∨k=7∨k=8∨k=9 by omega) with rfl|rfl|rfl|rfl|rfl|rfl|rfl|rfl|rfl|rfl
  all_goals kernel_rfl,h.2⟩
theorem Zsv (l:List UInt8)(k:Nat)(hk:k<10):ZaK l (Zau.drop k) k=if l=nmR0 k∨l=nmR1 k∨l=nmR2 k then some k else ZaK l (Zau.drop (k+1)) (k+1):=by
 rcases(show k=0∨k=1∨k=2∨k=3∨k=4∨k=5∨k=6∨k=7∨k=8∨k=9 by omega) with rfl|rfl|rfl|rfl|rfl|rfl|rfl|rfl|rfl|rfl
 all_goals
  simp only [Zau,List.drop_zero,List.drop_succ_cons,ZaK,nmR0,nmR1,nmR2,List.getD_cons_zero,List.getD_cons_succ,List.mem_cons,List.not_mem_nil,or_false]
def NmRel (l:List UInt8)(w0:World)(i:Value)(wr:World):Prop:=∃k:Nat,k≤10∧i= .int .i64 k∧ZaK l Zau 0=ZaK l (Zau.drop k) k∧Below w0.heap.size w0 wr
def NmV (r:Option Nat):Value:=match r with|some c=> .tuple #[.int .i64 (c:Int),.bool true]|none=> .tuple #[.int .i64 0,.bool false]
def Ze8 (r:Option Nat)(w0:World)(e:Ending)(w':World):Prop:=e= .returned (NmV r)∧Below w0.heap.size w0 w'
theorem idx3 (a b c:ByteArray)(w:World):(Instr.index 257 (.agg #[.string a,.string b,.string c]) (.int .i64 0)).run Tryz.prog w= .ok (.string a) w∧(Instr.index 257 (.agg #[.string a,.string b,.string c]) (.int .i64 1)).run Tryz.prog w= .ok (.string b) w∧(Instr.index 257 (.agg #[.string a,.string b,.string c]) (.int .i64 2)).run Tryz.prog w= .ok (.string c) w:=
 ⟨by kernel_rfl,by kernel_rfl,by kernel_rfl⟩
theorem ZoC (w:World):Calls Tryz.prog 149 #[.string ⟨#[]⟩] w fun e w'=>e= .returned (.tuple #[.int .i64 0,.bool false])∧Below w.heap.size w w':=by
 go_enter Tryz.func149,Tryz.ntmps149
 go_wp2_with fail
 go_ret2
 exact⟨rfl,Below.refl _ _⟩
theorem ZnW (l:List UInt8)(hl:l.length≤100000)(w:World):
 Calls Tryz.prog 149 #[.string (B l)] w (Ze8 (ZcY l) w):=by
 by_cases h0:l=[]
 · subst h0;exact(ZoC w).mono fun e w' h=>⟨h.1,h.2⟩
 have hn:ZcY l=ZaK (Zb5 l) Zau 0:=by unfold ZcY;rw [if_neg h0]
 have hsm:=fun w=>ZnY l hl w;have hem:(B l).toList.isEmpty=false:=by
  have e:(B l).toList=l:=by rw [ByteArray.toList_eq,ZQ]
  rw [e];cases l with
  |nil=>exact absurd rfl h0
  |cons a l=>rfl
 rw [hn];clear hn h0;have HP:Hid (∀r w',ZaK (Zb5 l) Zau 0=r→Below w.heap.size w w'→Ze8 (ZaK (Zb5 l) Zau 0) w (.returned (NmV r)) w'):=Lib.hid fun r w' h1 h2=>by rw [h1];exact⟨rfl,h2⟩
 generalize Ze8 (ZaK (Zb5 l) Zau 0) w=P at*;generalize Zb5 l=s at*;have hna:=fun w=>ZoE w;go_enter Tryz.func149,Tryz.ntmps149
 go_wp2_with (first|(go_at_call 226;refine(hsm _).mono ?_;rintro e w1 ⟨rfl,hb1⟩)|(go_at_call 227;refine(hna _).mono ?_;rintro e w2 ⟨V,rfl,hV,hb2⟩;have HV:=Lib.hid hV;clear hV))
 have hb12:=hb1.trans (hb2.mono hb1.size);clear hb1 hb2 hna hsm;go_loopw [13] (fun i wr=>NmRel s w i wr) (fun i _=>10 - (intOf i).toNat)
 case atStart=>exact⟨0,by omega,rfl,rfl,hb12⟩
 case round=>
  obtain⟨k,hk,rfl,he,hb⟩:=hrel;by_cases hlt:k<10
  · have hst:=Zsv s k hlt;have hix:=HV.out k hlt;generalize nmR0 k=a at*;generalize nmR1 k=b at*;generalize nmR2 k=c at*;have ix:=idx3 (B a) (B b) (B c);have ix0:=fun w=>(ix w).1;have ix1:=fun w=>(ix w).2.1;have ix2:=fun w=>(ix w).2.2;clear ix;have hq:∀x:List UInt8,((B x).toList==(B s).toList)=decide (s=x):=fun x=>by
     rw [ByteArray.toList_eq,ByteArray.toList_eq,ZQ,ZQ];by_cases h:s=x
     · rw [h];simp
     · rw [beq_eq_false_iff_ne.2 (fun e=>h e.symm)];simp [h]
    have qa:=hq a;have qb:=hq b;have qc:=hq c;have HBk:Hid (Below w.heap.size w (wr.alloc (.cells #[.string (B a),.string (B b),.string (B c)] 257))):=Lib.hid (hb.alloc hb.size _);clear hq;by_cases h1:s=a
    · have he2:ZaK s Zau 0=some k:=by rw [he,hst,if_pos (.inl h1)]
      have He:=Lib.hid he2;rw [decide_eq_true h1] at qa;clear qb qc he he2 hst h1;go_wp2_with fail
      refine wp_loop_rounds 4 ?_;rw [rounds_succ];go_wp2_with fail
      exact HP.out _ _ He.out HBk.out
    rw [decide_eq_false h1] at qa;by_cases h2:s=b
    · have he2:ZaK s Zau 0=some k:=by rw [he,hst,if_pos (.inr (.inl h2))]
      have He:=Lib.hid he2;rw [decide_eq_true h2] at qb;clear qc he he2 hst h1 h2;go_wp2_with fail
      refine wp_loop_rounds 4 ?_;rw [rounds_succ];go_wp2_with fail
      rw [rounds_succ];go_wp2_with fail
      exact HP.out _ _ He.out HBk.out
    rw [decide_eq_false h2] at qb;by_cases h3:s=c
    · have he2:ZaK s Zau 0=some k:=by rw [he,hst,if_pos (.inr (.inr h3))]
      have He:=Lib.hid he2;rw [decide_eq_true h3] at qc;clear he he2 hst h1 h2 h3;go_wp2_with fail
      refine wp_loop_rounds 4 ?_;rw [rounds_succ];go_wp2_with fail
      rw [rounds_succ];go_wp2_with fail
      rw [rounds_succ];go_wp2_with fail
      exact HP.out _ _ He.out HBk.out
    rw [decide_eq_false h3] at qc;have he2:ZaK s Zau 0=ZaK s (Zau.drop (k+1)) (k+1):=by rw [he,hst,if_neg (fun h=>h.elim h1 fun h=>h.elim h2 h3)]
    have He:=Lib.hid he2;clear he he2 hst h1 h2 h3;go_wp2_with fail
    refine wp_loop_rounds 4 ?_;rw [rounds_succ];go_wp2_with fail
    rw [rounds_succ];go_wp2_with fail
    rw [rounds_succ];go_wp2_with fail
    rw [rounds_succ];go_wp2_with fail
    go_roundw
    case rel=>exact⟨k+1,by omega,by go_num,He.out,HBk.out⟩
    case measure=>simp [intOf];omega
  · obtain rfl:k=10:=by omega
    have he2:ZaK s Zau 0=none:=by rw [he];rfl
    have He:=Lib.hid he2;clear he he2;go_wp2_with fail
    exact HP.out _ _ He.out hb
end Go.Proofs.YtlfinljfghhpdaaGreatDoor
namespace Go.Proofs.YtlfinljfghhpdaaGreatDoor
open Go Go.RowKit Go.Maps
theorem Zel (w:World):Calls Tryz.prog 151 #[] w fun e w'=>e= .returned (.slice (some ⟨w.heap.size,0,none⟩) 7 7)∧w'=w.alloc (.cells #[.int .i64 4,.int .i64 6,.int .i64 5,.int .i64 1,.int .i64 2,.int .i64 3,.int .i64 0] 36):=by
 go_enter Tryz.func151,Tryz.ntmps151
 go_wp2_with fail
 go_ret
 exact⟨rfl,rfl⟩
theorem Zgx (c:Nat)(w:World):Calls Tryz.prog 33 #[.int .i64 c] w fun e w'=>e= .returned (.bool (decide (c≤6)))∧w=w':=by
 by_cases h:c≤6
 · have h1:(c:Int)≤6:=by omega
   rw [decide_eq_true h];go_enter Tryz.func33,Tryz.ntmps33
   go_wp2_with fail
   go_ret
   exact⟨rfl,rfl⟩
 · have h1:¬(c:Int)≤6:=by omega
   rw [decide_eq_false h];go_enter Tryz.func33,Tryz.ntmps33
   go_wp2_with fail
   go_ret
   exact⟨rfl,rfl⟩
theorem Zjt (l:List UInt8)(w:World):Calls Tryz.prog 81 #[.string (B l)] w fun e w'=>e= .returned (.tuple #[.int .i64 ((Zdt l).1:Nat),.int .i64 ((Zdt l).2:Nat)])∧w=w':=by
 have h1:∀w,Calls Tryz.prog 56 #[.string (B l),.string ⟨#[239,187,191]⟩] w fun e w'=>e= .returned (.bool (Lib.hasPrefix l [239,187,191]))∧w=w':=fun w=>(Tryz.strings_HasPrefix (B l) _ w).mono fun e w' h=>⟨by rw [h.1,ZQ],h.2.symm⟩
 have h2:∀w,Calls Tryz.prog 56 #[.string (B l),.string ⟨#[255,254]⟩] w fun e w'=>e= .returned (.bool (Lib.hasPrefix l [255,254]))∧w=w':=fun w=>(Tryz.strings_HasPrefix (B l) _ w).mono fun e w' h=>⟨by rw [h.1,ZQ],h.2.symm⟩
 have h3:∀w,Calls Tryz.prog 56 #[.string (B l),.string ⟨#[254,255]⟩] w fun e w'=>e= .returned (.bool (Lib.hasPrefix l [254,255]))∧w=w':=fun w=>(Tryz.strings_HasPrefix (B l) _ w).mono fun e w' h=>⟨by rw [h.1,ZQ],h.2.symm⟩
 have hm:Zdt l=if Lib.hasPrefix l [239,187,191] then(7,3) else if Lib.hasPrefix l [255,254] then(8,2) else if Lib.hasPrefix l [254,255] then(9,2) else(0,0):=rfl
 generalize Zdt l=m at*;generalize Lib.hasPrefix l [239,187,191]=a at*;generalize Lib.hasPrefix l [255,254]=b at*;generalize Lib.hasPrefix l [254,255]=c at*;cases a
 · cases b
   · cases c
     · obtain rfl:m=(0,0):=by rw [hm];rfl
       clear hm;go_enter Tryz.func81,Tryz.ntmps81
       go_wp2_with (go_at_call 56;first|((with_reducible refine(h1 _).mono ?_);clear h1;rintro e w1 ⟨rfl,rfl⟩)|((with_reducible refine(h2 _).mono ?_);clear h2;rintro e w1 ⟨rfl,rfl⟩)|((with_reducible refine(h3 _).mono ?_);clear h3;rintro e w1 ⟨rfl,rfl⟩))
       go_ret2
       exact⟨rfl,rfl⟩
     · obtain rfl:m=(9,2):=by rw [hm];rfl
       clear hm;go_enter Tryz.func81,Tryz.ntmps81
       go_wp2_with (go_at_call 56;first|((with_reducible refine(h1 _).mono ?_);clear h1;rintro e w1 ⟨rfl,rfl⟩)|((with_reducible refine(h2 _).mono ?_);clear h2;rintro e w1 ⟨rfl,rfl⟩)|((with_reducible refine(h3 _).mono ?_);clear h3;rintro e w1 ⟨rfl,rfl⟩))
       go_ret2
       exact⟨rfl,rfl⟩
   · obtain rfl:m=(8,2):=by rw [hm];rfl
     clear hm h3;go_enter Tryz.func81,Tryz.ntmps81
     go_wp2_with (go_at_call 56;first|((with_reducible refine(h1 _).mono ?_);clear h1;rintro e w1 ⟨rfl,rfl⟩)|((with_reducible refine(h2 _).mono ?_);clear h2;rintro e w1 ⟨rfl,rfl⟩))
     go_ret2
     exact⟨rfl,rfl⟩
 · obtain rfl:m=(7,3):=by rw [hm];rfl
   clear hm h3 h2;go_enter Tryz.func81,Tryz.ntmps81
   go_wp2_with (go_at_call 56;(with_reducible refine(h1 _).mono ?_);clear h1;rintro e w1 ⟨rfl,rfl⟩)
   go_ret2
   exact⟨rfl,rfl⟩
theorem MpW.same {w w':World} {b n:Nat} {M:Int→Option Int} (h:MpW w b n M)(e:w'.heap[b]? =w.heap[b]?):MpW w' b n M:=by
 obtain⟨D,⟨es,cl,h1,h2⟩,h3⟩:=h;exact⟨D,⟨es,cl,e.trans h1,h2⟩,h3⟩
section
variable {ops:Array Oper} {rest:List Oper} {o:Oper} {a:Act} {Q:Exit→Act→World→Prop} {w:World} {b n:Nat} {M:Int→Option Int}
theorem mw_yes (hg:o.guard=none)(m x:Operand)(hop:o.op=Op.lookup 308 m x true)(h:MpW w b n M)(hm:a.eval m= .map (some b))(p:Int)(hx:a.eval x= .int .i32 p)(hp: -2147483648≤p∧p<2147483648){k:Int} (hk:M p=some k)
 (hK:wpList Tryz.prog ops Q rest (a.put o.dst (.tuple #[.int .i64 k,.bool true])) w):
 wpList Tryz.prog ops Q (o::rest) a w:=
 ZlO hg m x hop h hm p hx hp fun c hc=>by rw [hc k hk,hk];exact hK
theorem mw_no (hg:o.guard=none)(m x:Operand)(hop:o.op=Op.lookup 308 m x true)(h:MpW w b n M)(hm:a.eval m= .map (some b))(p:Int)(hx:a.eval x= .int .i32 p)(hp: -2147483648≤p∧p<2147483648)(hk:M p=none)
 (hK:∀c:Int,wpList Tryz.prog ops Q rest (a.put o.dst (.tuple #[.int .i64 c,.bool false])) w):
 wpList Tryz.prog ops Q (o::rest) a w:=
 ZlO hg m x hop h hm p hx hp fun c _=>by rw [hk];exact hK c
end
def scW (c:Nat)(p:Int)(b:Bool):Int:=ZbS c p+if b&&Zcz p then -3 else 0
def ScRel (c:Nat)(s:ByteArray)(ps:List Int)(K It:Nat)(W3:World)(sc sm:Value)(wr:World):Prop:=
 ∃(k i n:Nat) (z:Int) (b:Bool) (M:Int→Option Int),Run ps k i∧sc= .int .i64 z∧sm= .bool b∧Hid (ZbQ c ps false=z+ZbQ c (ps.drop k) b)∧ -11*(k:Int)≤z∧z≤11*(k:Int)∧wr.heap[It]? =some (.stringIter s i)∧MpW wr K n M∧n≤k∧Hid (∀p v,M p=some v→v=ZbS c p)∧Below K W3 wr
def ScV (r:Option Int):Value:=match r with|some z=> .tuple #[.int .i64 z,.bool true]|none=> .tuple #[.int .i64 0,.bool false]
def ZjO (r:Option Int)(w0:World)(e:Ending)(w':World):Prop:=e= .returned (ScV r)∧Below w0.heap.size w0 w'
theorem ZtH (c:Nat)(ps:List Int)(k:Nat)(hk:k<ps.length)(b:Bool):ZbQ c (ps.drop k) b=scW c ps[k] b+ZbQ c (ps.drop (k+1)) (ZcH ps[k]):=by
 rw [List.drop_eq_getElem_cons hk,ZbQ];rfl
theorem ZpJ (c:Nat)(hc:6<c)(l:List UInt8)(w:World):
 Calls Tryz.prog 181 #[.int .i64 c,.string (B l)] w fun e w'=>e= .returned (.tuple #[.int .i64 0,.bool false])∧Below w.heap.size w w':=by
 have hl:=fun w=>Zgx c w;rw [decide_eq_false (by omega)] at hl;go_enter Tryz.func181,Tryz.ntmps181
 go_wp2_with (go_at_call 33;refine(hl _).mono ?_;rintro e w1 ⟨rfl,rfl⟩)
 go_ret2
 exact⟨rfl,Below.refl _ _⟩
theorem ZpH (c:Nat)(hc:c≤6)(l:List UInt8)(hl:l.length≤100000)(n:Nat)(hd:Zbb c l= .inr n)(w:World)(hG:Grd w):
 Calls Tryz.prog 181 #[.int .i64 c,.string (B l)] w fun e w'=>e= .returned (.tuple #[.int .i64 0,.bool false])∧Below w.heap.size w w':=by
 have hle:=fun w=>Zgx c w;rw [decide_eq_true hc] at hle;have hde:=fun w hG=>Zgr c (by omega) l hl w hG;rw [hd] at hde;unfold Zaq D2V at hde;simp only at hde;have hbd:=fun w=>Zjn 2 n (by decide) w;clear hd;go_enter Tryz.func181,Tryz.ntmps181
 go_wp2_with (first
  |(go_at_call 33;refine(hle _).mono ?_;rintro e w1 ⟨rfl,rfl⟩)
  |(go_at_call 84;refine(hde _ hG).mono ?_;rintro e w1 ⟨rfl,hb1⟩)
  |(go_at_call 10;refine(hbd _).mono ?_;rintro e w2 ⟨rfl,hb2⟩))
 go_ret2
 exact⟨rfl,hb1.trans ((Zf hb2).mono hb1.size)⟩
theorem ZpI (c:Nat)(hc:c≤6)(l:List UInt8)(hl:l.length≤100000)(ps:List Int)(hd:Zbb c l= .inl ps)(hps:(Zb ps).length≤1000000)(w:World)(hG:Grd w):
 Calls Tryz.prog 181 #[.int .i64 c,.string (B l)] w fun e w'=>e= .returned (.tuple #[.int .i64 (ZbQ c ps false),.bool true])∧Below w.heap.size w w':=by
 have hle:=fun w=>Zgx c w;rw [decide_eq_true hc] at hle;have hde:=fun w hG=>Zgr c (by omega) l hl w hG;rw [hd] at hde;unfold Zaq D2V at hde;simp only at hde;have hbd:=fun w=>Zdc 0 0 rfl w;have hsc:=Zq3 l ps hd;have hg:Good (B (Zb ps)) ps:=Zdp hsc;have hp4:=hg.pre;have hsz:=Zy (Zb ps);have hlen:=(Zah ps).1;have hmm:=@run_makeMap Tryz.prog;have hwt:=fun p w=>Zob c hc p w;clear hd hsc;generalize B (Zb ps)=s at*;go_enter Tryz.func181,Tryz.ntmps181
 go_wp2_with (first
  |(go_at_call 33;refine(hle _).mono ?_;rintro e w1 ⟨rfl,rfl⟩)
  |(go_at_call 84;refine(hde _ hG).mono ?_;rintro e w1 ⟨rfl,hb1⟩)
  |(go_at_call 10;refine(hbd _).mono ?_;rintro e w2 ⟨rfl,hb2⟩))
 have hB2:Below w.heap.size w w2:=hb1.trans ((Zf hb2).mono hb1.size);have hit:=World.iter_heap (w2.alloc (.map #[] 0)) s 0;have hmp:=MpW.made w2;clear hb1 hb2 hde hbd hle;have hz3:(w2.alloc (.map #[] 0)).heap.size=w2.heap.size+1:=by simp
 rw [hz3] at hit;go_loopw [9,10] (fun a b wr=>ScRel c s ps w2.heap.size (w2.heap.size+1) (w2.alloc (.map #[] 0)) a b wr) (fun _ _ wr=>s.size+1 - wr.iterPos (w2.heap.size+1))
 case atStart=>
  refine⟨0,0,0,0,false,fun _=>none,Run.zero _,rfl,rfl,Lib.hid (by simp),by omega,by omega,hit,?_,Nat.le_refl _,Lib.hid (fun _ _ h=>by cases h),?_⟩
  · exact hmp.below ((Below.refl _ _).alloc (Nat.le_refl _) _)
  · exact(Below.refl _ _).alloc (by rw [hz3];omega) _
 case round=>
  obtain⟨k,i,n,z,b,M,hrun,rfl,rfl,hsco,hz0,hz1,hK,hM,hn,hMf,hb⟩:=hrel;have hle0:=hrun.le hp4;have hKlt:=ZhI hK;have hzk:=hb.size;have hpos:=ZcV hK;by_cases hk:k<ps.length
  · obtain⟨p,m,hst,hrun',hn1,hn4,hin,hp0,hp1,_⟩:=hrun.step hp4 hk;have hstep:=fun ty=>ZfP (P:=Tryz.prog) hst (by omega) wr (w2.heap.size+1) hK ty;have hb1:=Lib.below_iterAt hb (k:=w2.heap.size+1) (by omega) s (i+m);have hpk:ps[k]=p:=by rw [hst.2.2.1,List.getD_eq_getElem?_getD,List.getElem?_eq_getElem hk];rfl
    have hpr: -2147483648≤p∧p<2147483648:=by omega
    have hmpi:=hM.same (Lib.iterAt_other wr (w2.heap.size+1) w2.heap.size s (i+m) (by omega));have hKi:(wr.iterAt (w2.heap.size+1) s (i+m)).heap[w2.heap.size+1]? =some (.stringIter s (i+m)):=Lib.iterAt_heap wr (w2.heap.size+1) s i (i+m) hK;have hsn:=ZtH c ps k hk b;rw [hpk] at hsn;have hsn2:ZbQ c ps false=(z+scW c p b)+ZbQ c (ps.drop (k+1)) (ZcH p):=by rw [hsco.out,hsn];omega
    have Hsn:=Lib.hid hsn2;have hww:=ZuR c p;have hwp:=fun w=>hwt p w;have hca:=fun w=>Zjh p w;have hle:=fun w=>Zji p w;have hdef:scW c p b=ZbS c p+if b&&Zcz p then -3 else 0:=rfl
    have Hfold:Hid (∀q v,(if q=p then some (ZbS c p) else M q)=some v→v=ZbS c q):=Lib.hid fun q v h=>by
     by_cases e:q=p
     · rw [if_pos e] at h;injection h with h;rw [←h,e]
     · rw [if_neg e] at h;exact hMf.out q v h
    have hzi:(wr.iterAt (w2.heap.size+1) s (i+m)).heap.size=wr.heap.size:=by simp [World.iterAt]
    generalize wr.iterAt (w2.heap.size+1) s (i+m)=Wi at*;generalize hvv:ZbS c p=v at*;have Hvv:=Lib.hid hvv;clear hvv hsn hsn2;generalize hcp:Zcz p=cp at*;generalize hlp:ZcH p=lp at*;have hvr: -1000≤v∧v≤1000:=by omega
    have hpos2:∀wx:World,wx.heap[w2.heap.size+1]? =some (.stringIter s (i+m))→s.size+1 - wx.iterPos (w2.heap.size+1)<s.size+1 - i:=fun wx h=>by rw [ZcV h];omega
    have Hpos2:=Lib.hid hpos2;have Hpos:=Lib.hid hpos;clear hcp hlp hpos2 hK hpos;have hww1:=hww.1;have hww2:=hww.2;cases hMp:M p with
    |some v2=>
     obtain rfl:v2=v:=by rw [hMf.out p v2 hMp,Hvv.out]
     have hMp2:∀k,M p=some k→v2=k:=fun k h=>by rw [hMp] at h;injection h
     have HMP:=Lib.hid hMp;clear hMp;cases b<;>cases cp
     all_goals
      have hdd:scW c p _=_:=hdef;simp only [Bool.and_true,Bool.and_false,Bool.false_eq_true,if_false,if_true] at hdd;rw [hdd] at Hsn;clear hdef hdd;go_wp2_with (first
       |(at_lookup;refine mw_yes rfl _ _ rfl hmpi rfl p rfl hpr HMP.out ?_)
       |(go_at_call 261;refine(hca _).mono ?_;rintro e w6 ⟨rfl,rfl⟩)
       |(go_at_call 262;refine(hle _).mono ?_;rintro e w6 ⟨rfl,rfl⟩))
      go_roundw
      case rel=>
       refine⟨k+1,i+m,n,_,_,M,hrun',rfl,rfl,Lib.hid ?_,?_,?_,hKi,hmpi,by omega,hMf,hb1⟩
       · rw [Hsn.out];omega
       · omega
       · omega
      case measure=>rw [Hpos.out];exact Hpos2.out _ hKi
    |none=>
     have HMP:=Lib.hid hMp;clear hMp;cases b<;>cases cp
     all_goals
      have hdd:scW c p _=_:=hdef;simp only [Bool.and_true,Bool.and_false,Bool.false_eq_true,if_false,if_true] at hdd;rw [hdd] at Hsn;clear hdef hdd;go_wp2_with (first
       |(at_lookup;refine mw_no rfl _ _ rfl hmpi rfl p rfl hpr HMP.out ?_;intro cc)
       |(go_at_call 260;refine(hwp _).mono ?_;rintro e w4 ⟨rfl,hb4⟩;have HB4:=Lib.hid (hb1.trans (hb4.mono (Nat.le_trans (by omega) hb1.size)));have hz4:=hb4.size;have HM4:=Lib.hid (hmpi.below hb4);have HK4:=Lib.hid ((hb4.block _ (by omega)).trans hKi);clear hb4)
       |(at_mapUpdate;refine mw_put rfl _ _ _ rfl HM4.out rfl p rfl hpr v rfl hvr (by omega) ?_;intro w5 hM5 hg5;have HM5:=Lib.hid hM5;have hz5:=hg5.size;have HB5:=Lib.hid (HB4.out.grown hg5 (by omega) (by simp));have HK5:=Lib.hid ((hg5.block _ (by omega) (by simp)).trans HK4.out);clear hM5 hg5)
       |(go_at_call 261;refine(hca _).mono ?_;rintro e w6 ⟨rfl,rfl⟩)
       |(go_at_call 262;refine(hle _).mono ?_;rintro e w6 ⟨rfl,rfl⟩))
      go_roundw
      case rel=>
       refine⟨k+1,i+m,n+1,_,_,_,hrun',rfl,rfl,Lib.hid ?_,?_,?_,HK5.out,HM5.out,by omega,Hfold,HB5.out⟩
       · rw [Hsn.out];omega
       · omega
       · omega
      case measure=>rw [Hpos.out];exact Hpos2.out _ HK5.out
  · obtain rfl:k=ps.length:=by have:=hrun.1;omega
    obtain⟨hi2,_,hie⟩:=hrun.end_ hp4;have hend:=fun ty=>Lib.run_next_end_at (P:=Tryz.prog) wr (w2.heap.size+1) s i ty hK (by simp at hie;omega);have hz:ZbQ c ps false=z:=by
     have:=hsco.out;rw [List.drop_length,ZbQ] at this;omega
    have Hz:=Lib.hid hz;clear hz hsco hM hMf hi2 hie hrun hle0 hpos;go_wp2_with fail
    go_ret2
    exact⟨ZdD Hz.out.symm rfl,hB2.trans ((((Below.refl _ w2).alloc (Nat.le_refl _) _).trans hb).mono hB2.size)⟩
theorem Zha (f:UInt8→UInt8→List Int)(hf:∀a b,(Zb (f a b)).length≤8):∀(l:List UInt8) (i:Nat) (ps:List Int),Zk f l i= .inl ps→(Zb ps).length≤4*l.length
 |[],_,ps,h=>by rw [Zk] at h;injection h with h;subst h;simp [ZbE]
 |[a],i,ps,h=>by
  rw [Zk] at h;split at h
  · injection h with h;subst h
    have:=(Zah [(a.toNat:Int)]).2;simpa using this
  · cases h
 |a::b::q,i,ps,h=>by
  rw [Zk] at h;split at h
  · have ih:=Zha f hf (b::q) (i+1);generalize Zk f (b::q) (i+1)=r at*;cases r with
    |inr n=>cases h
    |inl qs=>
     injection h with h;subst h
     have h1:=ih qs rfl;have h2:=Zbx (a.toNat:Int);simp only [List.cons_append,List.nil_append,ZaG,List.length_append,List.length_cons] at*;omega
  · split at h
    · cases h
    · have ih:=Zha f hf q (i+2);generalize Zk f q (i+2)=r at*;cases r with
      |inr n=>cases h
      |inl qs=>
       injection h with h;subst h
       have h1:=ih qs rfl;have h2:=hf a b;simp only [ZcK,List.length_append,List.length_cons] at*;omega
theorem Zq2 {c:Nat} (l:List UInt8)(ps:List Int)(h:Zbb c l= .inl ps):(Zb ps).length≤4*l.length:=by
 unfold Zbb at h;split at h
 · injection h with h;subst h
   have:=(Zah (l.map fun x=>ZJ c x.toNat)).2;simpa using this
 · split at h
   · exact Zha _ (fun a b=>by
      have h1:=Zm5 c a b;have h2:=(Zah (sg2 c a b)).2;omega) l 0 ps h
   · split at h
     · rcases Zc9 l with⟨qs,hq,e⟩|⟨n,hq,e⟩
       · rw [e] at h;injection h with h;subst h;rw [ZiN hq];omega
       · rw [e] at h;cases h
     · rcases ZiI (c==9) l with⟨qs,hq,e⟩|⟨n,hq,e⟩
       · rw [e] at h;injection h with h;subst h
         have h1:=hq.1;have h2:=(ZlB (c==9) qs).1;have h3:=(Zah qs).2;have h4:l.length=(ZX (c==9) qs).length:=by
          have:=congrArg List.length h1;simpa using this
         omega
       · rw [e] at h;cases h
theorem ZpG (c:Nat)(l:List UInt8)(hl:l.length≤100000)(w:World)(hG:Grd w):
 Calls Tryz.prog 181 #[.int .i64 c,.string (B l)] w (ZjO (ZeM c l) w):=by
 unfold ZeM;by_cases hc:c≤6
 · rw [if_pos hc];cases hd:Zbb c l with
   |inl ps=>exact ZpI c hc l hl ps hd (by have:=Zq2 l ps hd;omega) w hG
   |inr n=>exact ZpH c hc l hl n hd w hG
 · rw [if_neg hc];exact ZpJ c (by omega) l w
noncomputable def gstep (l:List UInt8)(c:Nat)(g:Int×Nat×Bool):Int×Nat×Bool:=match ZeM c l with|some s=>if g.1<s then(s,c,true) else g|none=>g
theorem ZrN (l:List UInt8)(cs:List Nat)(k:Nat)(hk:k<cs.length)(g:Int×Nat×Bool):Zad l (cs.drop k) g=Zad l (cs.drop (k+1)) (gstep l cs[k] g):=by
 rw [List.drop_eq_getElem_cons hk,Zad];rfl
def GsRel (l:List UInt8)(cs:List Nat)(w0:World)(best found guess i:Value)(wr:World):Prop:=
 ∃(k:Nat) (g:Int×Nat×Bool),k≤cs.length∧i= .int .i64 k∧best= .int .i64 g.1∧guess= .int .i64 (g.2.1:Nat)∧found= .bool g.2.2∧Hid (Zad l cs (0,0,false)=Zad l (cs.drop k) g)∧Below w0.heap.size w0 wr
theorem Zon (l:List UInt8)(hl:l.length≤100000)(K cp:Nat)(cs:List Nat)(hn:cs.length≤100)(w:World)(hG:Grd w)(hK:K<w.heap.size)(hcell:∀(j:Nat) (x:Nat),cs[j]? =some x→w.cell? ⟨K,j,none⟩=some (.int .i64 (x:Int))):
 Calls Tryz.prog 150 #[.string (B l),.slice (some ⟨K,0,none⟩) cs.length cp] w fun e w'=>e= .returned (.tuple #[.int .i64 ((Zad l cs (0,0,false)).2.1:Nat),.bool (Zad l cs (0,0,false)).2.2])∧Below w.heap.size w w':=by
 have HC:=Lib.hid hcell;clear hcell;go_enter Tryz.func150,Tryz.ntmps150
 go_wp2_with fail
 go_loopw [6,7,8,15] (fun b f g i wr=>GsRel l cs w b f g i wr) (fun _ _ _ i _=>cs.length - (intOf i).toNat)
 case atStart=>exact⟨0,(0,0,false),Nat.zero_le _,rfl,rfl,rfl,rfl,Lib.hid (by simp),Below.refl _ _⟩
 case round=>
  obtain⟨k,g,hk,rfl,rfl,rfl,rfl,hg,hb⟩:=hrel;obtain⟨g1,g2,g3⟩:=g;by_cases hlt:k<cs.length
  · have hst:=ZrN l cs k hlt (g1,g2,g3);have hce:=(hb.cell (p:=⟨K,k,none⟩) hK).trans (HC.out k cs[k] (List.getElem?_eq_getElem hlt));have hsc:=fun w hG=>ZpG cs[k] l hl w hG;unfold gstep at hst;unfold ZjO at hsc;generalize ZeM cs[k] l=r at*;generalize cs[k]=c at*;have hGr:=hG.below hb;cases r with
    |none=>
     have H2:Hid (Zad l cs (0,0,false)=Zad l (cs.drop (k+1)) (g1,g2,g3)):=Lib.hid (by rw [hg.out,hst]);clear hst hg;unfold ScV at hsc;simp only at hsc;go_wp2_with (go_at_call 181;refine(hsc _ hGr).mono ?_;rintro e w1 ⟨rfl,hb1⟩)
     go_roundw
     case rel=>exact⟨k+1,(g1,g2,g3),by omega,by go_num,rfl,rfl,rfl,H2,hb.trans (hb1.mono hb.size)⟩
     case measure=>simp [intOf];omega
    |some z=>
     unfold ScV at hsc;simp only at hsc hst;by_cases hz:g1<z
     · rw [if_pos hz] at hst;have H2:Hid (Zad l cs (0,0,false)=Zad l (cs.drop (k+1)) (z,c,true)):=Lib.hid (by rw [hg.out,hst]);clear hst hg;go_wp2_with (go_at_call 181;refine(hsc _ hGr).mono ?_;rintro e w1 ⟨rfl,hb1⟩)
       go_roundw
       case rel=>exact⟨k+1,(z,c,true),by omega,by go_num,rfl,rfl,rfl,H2,hb.trans (hb1.mono hb.size)⟩
       case measure=>simp [intOf];omega
     · rw [if_neg hz] at hst;have H2:Hid (Zad l cs (0,0,false)=Zad l (cs.drop (k+1)) (g1,g2,g3)):=Lib.hid (by rw [hg.out,hst]);clear hst hg;go_wp2_with (go_at_call 181;refine(hsc _ hGr).mono ?_;rintro e w1 ⟨rfl,hb1⟩)
       go_roundw
       case rel=>exact⟨k+1,(g1,g2,g3),by omega,by go_num,rfl,rfl,rfl,H2,hb.trans (hb1.mono hb.size)⟩
       case measure=>simp [intOf];omega
  · obtain rfl:k=cs.length:=by omega
    have hz:Zad l cs (0,0,false)=(g1,g2,g3):=by rw [hg.out,List.drop_length,Zad]
    have Hz:=Lib.hid hz;clear hz hg;go_wp2_with fail
    go_ret2
    rw [Hz.out];exact⟨rfl,hb⟩
theorem ZeG {k fb bud:Value} {det:Value} {T:TypeId} (w:World){w1 w2:World} (h1:Below (w.alloc (.cells #[k,fb,det,bud] T)).heap.size (w.alloc (.cells #[k,fb,det,bud] T)) w1)(h2:Below w1.heap.size w1 w2):
 w2.cell? ⟨w.heap.size,1,none⟩=some fb∧w2.cell? ⟨w.heap.size,2,none⟩=some det:=by
 have e:=heap_alloc_new w (.cells #[k,fb,det,bud] T);have e1:w1.heap[w.heap.size]? =some (.cells #[k,fb,det,bud] T (0,0)):=by rw [h1.block _ (by simp),e]
 have e2:w2.heap[w.heap.size]? =some (.cells #[k,fb,det,bud] T (0,0)):=by rw [h2.block _ (by have:=Zag h1;omega),e1]
 exact⟨by rw [cell_of_row _ _ 1 _ _ _ e2];rfl,by rw [cell_of_row _ _ 2 _ _ _ e2];rfl⟩
theorem ZeH {K:Nat} {a b:Value} {w1 w2:World} (h1:w1.cell? ⟨K,1,none⟩=some a)(h2:w1.cell? ⟨K,2,none⟩=some b)(hb:Below w1.heap.size w1 w2):
 w2.cell? ⟨K,1,none⟩=some a∧w2.cell? ⟨K,2,none⟩=some b:=
 ⟨by rw [hb.cell (World.block_lt_of_cell? _ _ h1),h1],by rw [hb.cell (World.block_lt_of_cell? _ _ h2),h2]⟩
theorem Zjy (l:List UInt8)(hl:l.length≤100000)(w:World)(hT:Zj w):Calls Tryz.prog 95 #[.string (B l)] w fun e w'=>e= .returned (.bool (Zap l))∧Below w.heap.size w w':=by
 unfold Zap;rcases Zc9 l with⟨ps,h,e⟩|⟨n,h,e⟩
 · rw [e];exact Zqc (B l) ps h (by rw [Zy];omega) w hT
 · rw [e];exact Zqb (B l) n h (by rw [Zy];omega) w hT
theorem ZoJ (l:List UInt8)(hl:l.length≤100000)(w:World)(hG:Grd w):
 Calls Tryz.prog 150 #[.string (B l),.slice (some ⟨w.heap.size,0,none⟩) 7 7] (w.alloc (.cells #[.int .i64 4,.int .i64 6,.int .i64 5,.int .i64 1,.int .i64 2,.int .i64 3,.int .i64 0] 36)) fun e w'=>e= .returned (.tuple #[.int .i64 ((Zad l Zcj (0,0,false)).2.1:Nat),.bool (Zad l Zcj (0,0,false)).2.2])∧Below (w.alloc (.cells #[.int .i64 4,.int .i64 6,.int .i64 5,.int .i64 1,.int .i64 2,.int .i64 3,.int .i64 0] 36)).heap.size (w.alloc (.cells #[.int .i64 4,.int .i64 6,.int .i64 5,.int .i64 1,.int .i64 2,.int .i64 3,.int .i64 0] 36)) w':=
 Zon l hl w.heap.size 7 Zcj (by decide) _ (hG.alloc _) (by simp) fun j x hx=>by
  rw [cell_of_row _ _ j _ _ _ (heap_alloc_new w _)];have:(Zcj.map fun n:Nat=>Value.int .i64 (n:Int))[j]? =some (.int .i64 (x:Int)):=by rw [List.getElem?_map,hx];rfl
  rw [←this];simp [Zcj]
theorem Zpq (l d:List UInt8)(hl:l.length≤100000)(hd:d.length≤100000)(k bud:Int)(fb:Nat)(det:Bool)(w:World)(hG:Grd w):
 Calls Tryz.prog 82 #[.string (B l),.string (B d),.agg #[.int .i64 k,.int .i64 fb,.bool det,.int .i64 bud]] w fun e w'=>e= .returned (.int .i64 (ZdC l d fb det:Nat))∧Below w.heap.size w w':=by
 have hva:=fun w hT=>Zjy l hl w hT;have hna:=fun w=>ZnW d hd w;have hgu:=fun w hG=>ZoJ l hl w hG;have hR:ZdC l d fb det=if Zap l then 7 else match ZcY d with
  |some c=>c
  |none=>if det then(match ZfD l with|some c=>c|none=>fb) else fb:=rfl
 have hgl:ZfD l=if(Zad l Zcj (0,0,false)).2.2 then some (Zad l Zcj (0,0,false)).2.1 else none:=rfl
 unfold Ze8 at hna;generalize ZdC l d fb det=R at*;generalize ZfD l=gl at*;generalize Zap l=ok at*;generalize ZcY d=nm at*;generalize (Zad l Zcj (0,0,false)).2.2=fo at*;generalize (Zad l Zcj (0,0,false)).2.1=gs at*;cases ok
 · cases nm with
   |some c=>
    obtain rfl:R=c:=by rw [hR];rfl
    unfold NmV at hna;simp only at hna;clear hR hgl;go_enter Tryz.func82,Tryz.ntmps82
    go_wp2_with (first
     |(go_at_call 95;refine(hva _ (ZN hG.tabs _)).mono ?_;rintro e w1 ⟨rfl,hb1⟩;have HB1:=Lib.hid hb1;clear hb1)
     |(go_at_call 149;refine(hna _).mono ?_;rintro e w2 ⟨rfl,hb2⟩;have HB2:=Lib.hid ((Zf HB1.out).trans (hb2.mono (Nat.le_of_lt (Zag HB1.out))));have hF2:=ZeG w HB1.out hb2;obtain⟨x1,x2⟩:=hF2;clear hb2)
     |(go_at_call 151;refine(Zel _).mono ?_;rintro e w3 ⟨rfl,rfl⟩)
     |(go_at_call 150;refine(hgu w2 (hG.below HB2.out)).mono ?_;rintro e w4 ⟨rfl,hb4⟩;have HB4:=Lib.hid (HB2.out.trans ((Zf hb4).mono HB2.out.size));have hF4:=ZeH x1 x2 (Zf hb4);obtain⟨y1,y2⟩:=hF4;clear hb4))
    go_ret
    exact⟨rfl,HB2.out⟩
   |none=>
    unfold NmV at hna;simp only at hna;cases det
    · obtain rfl:R=fb:=by rw [hR];rfl
      clear hR hgl;go_enter Tryz.func82,Tryz.ntmps82
      go_wp2_with (first
       |(go_at_call 95;refine(hva _ (ZN hG.tabs _)).mono ?_;rintro e w1 ⟨rfl,hb1⟩;have HB1:=Lib.hid hb1;clear hb1)
       |(go_at_call 149;refine(hna _).mono ?_;rintro e w2 ⟨rfl,hb2⟩;have HB2:=Lib.hid ((Zf HB1.out).trans (hb2.mono (Nat.le_of_lt (Zag HB1.out))));have hF2:=ZeG w HB1.out hb2;obtain⟨x1,x2⟩:=hF2;clear hb2)
       |(go_at_call 151;refine(Zel _).mono ?_;rintro e w3 ⟨rfl,rfl⟩)
       |(go_at_call 150;refine(hgu w2 (hG.below HB2.out)).mono ?_;rintro e w4 ⟨rfl,hb4⟩;have HB4:=Lib.hid (HB2.out.trans ((Zf hb4).mono HB2.out.size));have hF4:=ZeH x1 x2 (Zf hb4);obtain⟨y1,y2⟩:=hF4;clear hb4))
      go_ret
      exact⟨rfl,HB2.out⟩
    · cases fo
      · obtain rfl:R=fb:=by rw [hR,hgl];rfl
        clear hR hgl;go_enter Tryz.func82,Tryz.ntmps82
        go_wp2_with (first
         |(go_at_call 95;refine(hva _ (ZN hG.tabs _)).mono ?_;rintro e w1 ⟨rfl,hb1⟩;have HB1:=Lib.hid hb1;clear hb1)
         |(go_at_call 149;refine(hna _).mono ?_;rintro e w2 ⟨rfl,hb2⟩;have HB2:=Lib.hid ((Zf HB1.out).trans (hb2.mono (Nat.le_of_lt (Zag HB1.out))));have hF2:=ZeG w HB1.out hb2;obtain⟨x1,x2⟩:=hF2;clear hb2)
         |(go_at_call 151;refine(Zel _).mono ?_;rintro e w3 ⟨rfl,rfl⟩)
         |(go_at_call 150;refine(hgu w2 (hG.below HB2.out)).mono ?_;rintro e w4 ⟨rfl,hb4⟩;have HB4:=Lib.hid (HB2.out.trans ((Zf hb4).mono HB2.out.size));have hF4:=ZeH x1 x2 (Zf hb4);obtain⟨y1,y2⟩:=hF4;clear hb4))
        go_ret
        exact⟨rfl,HB4.out⟩
      · obtain rfl:R=gs:=by rw [hR,hgl];rfl
        clear hR hgl;go_enter Tryz.func82,Tryz.ntmps82
        go_wp2_with (first
         |(go_at_call 95;refine(hva _ (ZN hG.tabs _)).mono ?_;rintro e w1 ⟨rfl,hb1⟩;have HB1:=Lib.hid hb1;clear hb1)
         |(go_at_call 149;refine(hna _).mono ?_;rintro e w2 ⟨rfl,hb2⟩;have HB2:=Lib.hid ((Zf HB1.out).trans (hb2.mono (Nat.le_of_lt (Zag HB1.out))));have hF2:=ZeG w HB1.out hb2;obtain⟨x1,x2⟩:=hF2;clear hb2)
         |(go_at_call 151;refine(Zel _).mono ?_;rintro e w3 ⟨rfl,rfl⟩)
         |(go_at_call 150;refine(hgu w2 (hG.below HB2.out)).mono ?_;rintro e w4 ⟨rfl,hb4⟩;have HB4:=Lib.hid (HB2.out.trans ((Zf hb4).mono HB2.out.size));have hF4:=ZeH x1 x2 (Zf hb4);obtain⟨y1,y2⟩:=hF4;clear hb4))
        go_ret
        exact⟨rfl,HB4.out⟩
 · obtain rfl:R=7:=by rw [hR];rfl
   clear hR hgl;go_enter Tryz.func82,Tryz.ntmps82
   go_wp2_with (first
    |(go_at_call 95;refine(hva _ (ZN hG.tabs _)).mono ?_;rintro e w1 ⟨rfl,hb1⟩;have HB1:=Lib.hid hb1;clear hb1)
    |(go_at_call 149;refine(hna _).mono ?_;rintro e w2 ⟨rfl,hb2⟩;have HB2:=Lib.hid ((Zf HB1.out).trans (hb2.mono (Nat.le_of_lt (Zag HB1.out))));have hF2:=ZeG w HB1.out hb2;obtain⟨x1,x2⟩:=hF2;clear hb2)
    |(go_at_call 151;refine(Zel _).mono ?_;rintro e w3 ⟨rfl,rfl⟩)
    |(go_at_call 150;refine(hgu w2 (hG.below HB2.out)).mono ?_;rintro e w4 ⟨rfl,hb4⟩;have HB4:=Lib.hid (HB2.out.trans ((Zf hb4).mono HB2.out.size));have hF4:=ZeH x1 x2 (Zf hb4);obtain⟨y1,y2⟩:=hF4;clear hb4))
   go_ret
   exact⟨rfl,Zf HB1.out⟩
end Go.Proofs.YtlfinljfghhpdaaGreatDoor
