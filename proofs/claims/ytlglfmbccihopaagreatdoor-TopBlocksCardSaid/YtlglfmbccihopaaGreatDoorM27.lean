/- Lemmas for a statement on the tops; conditions: as each says. -/
import Derived.Test.YtlglfmbccihopaaGreatDoorM26
set_option linter.unusedVariables false
set_option linter.unusedSimpArgs false
set_option maxRecDepth 100000
set_option maxHeartbeats 4000000
namespace Go.Proofs.YtlglfmbccihopaaGreatDoor
open Go Go.RowKit
def ZhN:Array Value:=#[.string ⟨#[108,97,116,105,110,49]⟩,.string ⟨#[105,115,111,45,56,56,53,57,45,49]⟩,.string ⟨#[108,97,116,105,110,45,49]⟩,.string ⟨#[107,111,105,56,45,114]⟩,.string ⟨#[107,111,105,56,114]⟩,.string ⟨#[]⟩,.string ⟨#[107,111,105,56,45,117]⟩,.string ⟨#[107,111,105,56,117]⟩,.string ⟨#[]⟩,.string ⟨#[99,112,56,54,54]⟩,.string ⟨#[105,98,109,56,54,54]⟩,.string ⟨#[]⟩,.string ⟨#[99,112,57,52,57]⟩,.string ⟨#[101,117,99,45,107,114]⟩,.string ⟨#[117,104,99]⟩,.string ⟨#[106,111,104,97,98]⟩,.string ⟨#[99,112,49,51,54,49]⟩,.string ⟨#[]⟩,.string ⟨#[98,105,103,53,45,104,107,115,99,115]⟩,.string ⟨#[98,105,103,53]⟩,.string ⟨#[]⟩,.string ⟨#[117,116,102,45,56]⟩,.string ⟨#[117,116,102,56]⟩,.string ⟨#[]⟩,.string ⟨#[117,116,102,45,49,54,108,101]⟩,.string ⟨#[117,116,102,49,54,108,101]⟩,.string ⟨#[]⟩,.string ⟨#[117,116,102,45,49,54,98,101]⟩,.string ⟨#[117,116,102,49,54,98,101]⟩,.string ⟨#[]⟩]
theorem Zov (w:World):Calls Tryz.prog 184 #[] w fun e w'=>e= .returned (.agg ZhN)∧Below w.heap.size w w':=by
 go_enter Tryz.func184,Tryz.ntmps184
 go_wp2_with (first|(refine ZlD rfl 241 _ ZhN rfl (by kernel_rfl) ?_)|(refine wpList_store_row rfl 241 _ _ rfl w.heap.size ZhN rfl rfl _ _ (heap_alloc_new w _) (by kernel_rfl) (by rfl) (by kernel_rfl) ?_;rw [World.setRow_alloc_new]))
 refine bodyPost_ret (results_cell_row rfl _ _ w.heap.size _ _ _ _ rfl (heap_alloc_new w _) Tryz.underlying241 rfl (by kernel_rfl)) rfl ⟨rfl,(Below.refl _ w).alloc (Nat.le_refl _) _⟩
def nmR0 (k:Nat):List UInt8:=(Zak.getD k []).getD 0 []
def nmR1 (k:Nat):List UInt8:=(Zak.getD k []).getD 1 []
def nmR2 (k:Nat):List UInt8:=(Zak.getD k []).getD 2 []
def Zot (V:Value):Prop:=∀k:Nat,k<10→∀w,(Instr.index 241 V (.int .i64 k)).run Tryz.prog w= .ok (.agg #[.string (B (nmR0 k)),.string (B (nmR1 k)),.string (B (nmR2 k))]) w
theorem Zou (w:World):Calls Tryz.prog 184 #[] w fun e w'=>∃V,e= .returned V∧Zot V∧Below w.heap.size w w':=
 (Zov w).mono fun _ _ h=>⟨_,h.1,fun k hk w=>by
  rcases(show k=0∨k=1∨k=2∨k=3∨k=4∨k=5∨k=6∨k=7∨k=8∨k=9 by omega) with rfl|rfl|rfl|rfl|rfl|rfl|rfl|rfl|rfl|rfl
  all_goals kernel_rfl,h.2⟩
theorem ZrD (l:List UInt8)(k:Nat)(hk:k<10):Zai l (Zak.drop k) k=if l=nmR0 k∨l=nmR1 k∨l=nmR2 k then some k else Zai l (Zak.drop (k+1)) (k+1):=by
 rcases(show k=0∨k=1∨k=2∨k=3∨k=4∨k=5∨k=6∨k=7∨k=8∨k=9 by omega) with rfl|rfl|rfl|rfl|rfl|rfl|rfl|rfl|rfl|rfl
 all_goals
  simp only [Zak,List.drop_zero,List.drop_succ_cons,Zai,nmR0,nmR1,nmR2,List.getD_cons_zero,List.getD_cons_succ,List.mem_cons,List.not_mem_nil,or_false]
def NmRel (l:List UInt8)(w0:World)(i:Value)(wr:World):Prop:=∃k:Nat,k≤10∧i= .int .i64 k∧Zai l Zak 0=Zai l (Zak.drop k) k∧Below w0.heap.size w0 wr
def NmV (r:Option Nat):Value:=match r with|some c=> .tuple #[.int .i64 (c:Int),.bool true]|none=> .tuple #[.int .i64 0,.bool false]
def Ze4 (r:Option Nat)(w0:World)(e:Ending)(w':World):Prop:=e= .returned (NmV r)∧Below w0.heap.size w0 w'
theorem idx3 (a b c:ByteArray)(w:World):(Instr.index 240 (.agg #[.string a,.string b,.string c]) (.int .i64 0)).run Tryz.prog w= .ok (.string a) w∧(Instr.index 240 (.agg #[.string a,.string b,.string c]) (.int .i64 1)).run Tryz.prog w= .ok (.string b) w∧(Instr.index 240 (.agg #[.string a,.string b,.string c]) (.int .i64 2)).run Tryz.prog w= .ok (.string c) w:=
 ⟨by kernel_rfl,by kernel_rfl,by kernel_rfl⟩
theorem Zos (w:World):Calls Tryz.prog 111 #[.string ⟨#[]⟩] w fun e w'=>e= .returned (.tuple #[.int .i64 0,.bool false])∧Below w.heap.size w w':=by
 go_enter Tryz.func111,Tryz.ntmps111
 go_wp2_with fail
 go_ret2
 exact⟨rfl,Below.refl _ _⟩
theorem ZnQ (l:List UInt8)(hl:l.length≤100000)(w:World):
 Calls Tryz.prog 111 #[.string (B l)] w (Ze4 (Zdd l) w):=by
 by_cases h0:l=[]
 · subst h0;exact(Zos w).mono fun e w' h=>⟨h.1,h.2⟩
 have hn:Zdd l=Zai (ZbV l) Zak 0:=by unfold Zdd;rw [if_neg h0]
 have hsm:=fun w=>ZnS l hl w;have hem:(B l).toList.isEmpty=false:=by
  have e:(B l).toList=l:=by rw [ByteArray.toList_eq,Zbn]
  rw [e];cases l with
  |nil=>exact absurd rfl h0
  |cons a l=>rfl
 rw [hn];clear hn h0;have HP:Hid (∀r w',Zai (ZbV l) Zak 0=r→Below w.heap.size w w'→Ze4 (Zai (ZbV l) Zak 0) w (.returned (NmV r)) w'):=Lib.hid fun r w' h1 h2=>by rw [h1];exact⟨rfl,h2⟩
 generalize Ze4 (Zai (ZbV l) Zak 0) w=P at*;generalize ZbV l=s at*;have hna:=fun w=>Zou w;go_enter Tryz.func111,Tryz.ntmps111
 go_wp2_with (first|(go_at_call 183;refine(hsm _).mono ?_;rintro e w1 ⟨rfl,hb1⟩)|(go_at_call 184;refine(hna _).mono ?_;rintro e w2 ⟨V,rfl,hV,hb2⟩;have HV:=Lib.hid hV;clear hV))
 have hb12:=hb1.trans (hb2.mono hb1.size);clear hb1 hb2 hna hsm;go_loopw [13] (fun i wr=>NmRel s w i wr) (fun i _=>10 - (intOf i).toNat)
 case atStart=>exact⟨0,by omega,rfl,rfl,hb12⟩
 case round=>
  obtain⟨k,hk,rfl,he,hb⟩:=hrel;by_cases hlt:k<10
  · have hst:=ZrD s k hlt;have hix:=HV.out k hlt;generalize nmR0 k=a at*;generalize nmR1 k=b at*;generalize nmR2 k=c at*;have ix:=idx3 (B a) (B b) (B c);have ix0:=fun w=>(ix w).1;have ix1:=fun w=>(ix w).2.1;have ix2:=fun w=>(ix w).2.2;clear ix;have hq:∀x:List UInt8,((B x).toList==(B s).toList)=decide (s=x):=fun x=>by
     rw [ByteArray.toList_eq,ByteArray.toList_eq,Zbn,Zbn];by_cases h:s=x
     · rw [h];simp
     · rw [beq_eq_false_iff_ne.2 (fun e=>h e.symm)];simp [h]
    have qa:=hq a;have qb:=hq b;have qc:=hq c;have HBk:Hid (Below w.heap.size w (wr.alloc (.cells #[.string (B a),.string (B b),.string (B c)] 240))):=Lib.hid (hb.alloc hb.size _);clear hq;by_cases h1:s=a
    · have he2:Zai s Zak 0=some k:=by rw [he,hst,if_pos (.inl h1)]
      have He:=Lib.hid he2;rw [decide_eq_true h1] at qa;clear qb qc he he2 hst h1;go_wp2_with fail
      refine wp_loop_rounds 4 ?_;rw [rounds_succ];go_wp2_with fail
      exact HP.out _ _ He.out HBk.out
    rw [decide_eq_false h1] at qa;by_cases h2:s=b
    · have he2:Zai s Zak 0=some k:=by rw [he,hst,if_pos (.inr (.inl h2))]
      have He:=Lib.hid he2;rw [decide_eq_true h2] at qb;clear qc he he2 hst h1 h2;go_wp2_with fail
      refine wp_loop_rounds 4 ?_;rw [rounds_succ];go_wp2_with fail
      rw [rounds_succ];go_wp2_with fail
      exact HP.out _ _ He.out HBk.out
    rw [decide_eq_false h2] at qb;by_cases h3:s=c
    · have he2:Zai s Zak 0=some k:=by rw [he,hst,if_pos (.inr (.inr h3))]
      have He:=Lib.hid he2;rw [decide_eq_true h3] at qc;clear he he2 hst h1 h2 h3;go_wp2_with fail
      refine wp_loop_rounds 4 ?_;rw [rounds_succ];go_wp2_with fail
      rw [rounds_succ];go_wp2_with fail
      rw [rounds_succ];go_wp2_with fail
      exact HP.out _ _ He.out HBk.out
    rw [decide_eq_false h3] at qc;have he2:Zai s Zak 0=Zai s (Zak.drop (k+1)) (k+1):=by rw [he,hst,if_neg (fun h=>h.elim h1 fun h=>h.elim h2 h3)]
    have He:=Lib.hid he2;clear he he2 hst h1 h2 h3;go_wp2_with fail
    refine wp_loop_rounds 4 ?_;rw [rounds_succ];go_wp2_with fail
    rw [rounds_succ];go_wp2_with fail
    rw [rounds_succ];go_wp2_with fail
    rw [rounds_succ];go_wp2_with fail
    go_roundw
    case rel=>exact⟨k+1,by omega,by go_num,He.out,HBk.out⟩
    case measure=>simp [intOf];omega
  · obtain rfl:k=10:=by omega
    have he2:Zai s Zak 0=none:=by rw [he];rfl
    have He:=Lib.hid he2;clear he he2;go_wp2_with fail
    exact HP.out _ _ He.out hb
end Go.Proofs.YtlglfmbccihopaaGreatDoor
namespace Go.Proofs.YtlglfmbccihopaaGreatDoor
open Go Go.RowKit Go.Maps
theorem Zea (w:World):Calls Tryz.prog 113 #[] w fun e w'=>e= .returned (.slice (some ⟨w.heap.size,0,none⟩) 7 7)∧w'=w.alloc (.cells #[.int .i64 4,.int .i64 6,.int .i64 5,.int .i64 1,.int .i64 2,.int .i64 3,.int .i64 0] 23):=by
 go_enter Tryz.func113,Tryz.ntmps113
 go_wp2_with fail
 go_ret
 exact⟨rfl,rfl⟩
theorem ZgB (c:Nat)(w:World):Calls Tryz.prog 16 #[.int .i64 c] w fun e w'=>e= .returned (.bool (decide (c≤6)))∧w=w':=by
 by_cases h:c≤6
 · have h1:(c:Int)≤6:=by omega
   rw [decide_eq_true h];go_enter Tryz.func16,Tryz.ntmps16
   go_wp2_with fail
   go_ret
   exact⟨rfl,rfl⟩
 · have h1:¬(c:Int)≤6:=by omega
   rw [decide_eq_false h];go_enter Tryz.func16,Tryz.ntmps16
   go_wp2_with fail
   go_ret
   exact⟨rfl,rfl⟩
theorem MpW.same {w w':World} {b n:Nat} {M:Int→Option Int} (h:MpW w b n M)(e:w'.heap[b]? =w.heap[b]?):MpW w' b n M:=by
 obtain⟨D,⟨es,cl,h1,h2⟩,h3⟩:=h;exact⟨D,⟨es,cl,e.trans h1,h2⟩,h3⟩
section
variable {ops:Array Oper} {rest:List Oper} {o:Oper} {a:Act} {Q:Exit→Act→World→Prop} {w:World} {b n:Nat} {M:Int→Option Int}
theorem mw_yes (hg:o.guard=none)(m x:Operand)(hop:o.op=Op.lookup 305 m x true)(h:MpW w b n M)(hm:a.eval m= .map (some b))(p:Int)(hx:a.eval x= .int .i32 p)(hp: -2147483648≤p∧p<2147483648){k:Int} (hk:M p=some k)
 (hK:wpList Tryz.prog ops Q rest (a.put o.dst (.tuple #[.int .i64 k,.bool true])) w):
 wpList Tryz.prog ops Q (o::rest) a w:=
 ZlC hg m x hop h hm p hx hp fun c hc=>by rw [hc k hk,hk];exact hK
theorem mw_no (hg:o.guard=none)(m x:Operand)(hop:o.op=Op.lookup 305 m x true)(h:MpW w b n M)(hm:a.eval m= .map (some b))(p:Int)(hx:a.eval x= .int .i32 p)(hp: -2147483648≤p∧p<2147483648)(hk:M p=none)
 (hK:∀c:Int,wpList Tryz.prog ops Q rest (a.put o.dst (.tuple #[.int .i64 c,.bool false])) w):
 wpList Tryz.prog ops Q (o::rest) a w:=
 ZlC hg m x hop h hm p hx hp fun c _=>by rw [hk];exact hK c
end
def scW (c:Nat)(p:Int)(b:Bool):Int:=ZbK c p+if b&&Zco p then -3 else 0
def ScRel (c:Nat)(s:ByteArray)(ps:List Int)(K It:Nat)(W3:World)(sc sm:Value)(wr:World):Prop:=
 ∃(k i n:Nat) (z:Int) (b:Bool) (M:Int→Option Int),Run ps k i∧sc= .int .i64 z∧sm= .bool b∧Hid (ZbI c ps false=z+ZbI c (ps.drop k) b)∧ -11*(k:Int)≤z∧z≤11*(k:Int)∧wr.heap[It]? =some (.stringIter s i)∧MpW wr K n M∧n≤k∧Hid (∀p v,M p=some v→v=ZbK c p)∧Below K W3 wr
def ScV (r:Option Int):Value:=match r with|some z=> .tuple #[.int .i64 z,.bool true]|none=> .tuple #[.int .i64 0,.bool false]
def Zjr (r:Option Int)(w0:World)(e:Ending)(w':World):Prop:=e= .returned (ScV r)∧Below w0.heap.size w0 w'
theorem ZsS (c:Nat)(ps:List Int)(k:Nat)(hk:k<ps.length)(b:Bool):ZbI c (ps.drop k) b=scW c ps[k] b+ZbI c (ps.drop (k+1)) (Zct ps[k]):=by
 rw [List.drop_eq_getElem_cons hk,ZbI];rfl
theorem Zo4 (c:Nat)(hc:6<c)(l:List UInt8)(w:World):
 Calls Tryz.prog 185 #[.int .i64 c,.string (B l)] w fun e w'=>e= .returned (.tuple #[.int .i64 0,.bool false])∧Below w.heap.size w w':=by
 have hl:=fun w=>ZgB c w;rw [decide_eq_false (by omega)] at hl;go_enter Tryz.func185,Tryz.ntmps185
 go_wp2_with (go_at_call 16;refine(hl _).mono ?_;rintro e w1 ⟨rfl,rfl⟩)
 go_ret2
 exact⟨rfl,Below.refl _ _⟩
theorem Zo2 (c:Nat)(hc:c≤6)(l:List UInt8)(hl:l.length≤100000)(n:Nat)(hd:ZC c l= .inr n)(w:World)(hG:Grd w):
 Calls Tryz.prog 185 #[.int .i64 c,.string (B l)] w fun e w'=>e= .returned (.tuple #[.int .i64 0,.bool false])∧Below w.heap.size w w':=by
 have hle:=fun w=>ZgB c w;rw [decide_eq_true hc] at hle;have hde:=fun w hG=>Zd6 c (by omega) l hl w hG;rw [hd] at hde;unfold ZaV D2V at hde;simp only at hde;have hbd:=fun w=>ZcB 2 n (by decide) w;clear hd;go_enter Tryz.func185,Tryz.ntmps185
 go_wp2_with (first
  |(go_at_call 16;refine(hle _).mono ?_;rintro e w1 ⟨rfl,rfl⟩)
  |(go_at_call 62;refine(hde _ hG).mono ?_;rintro e w1 ⟨rfl,hb1⟩)
  |(go_at_call 8;refine(hbd _).mono ?_;rintro e w2 ⟨rfl,hb2⟩))
 go_ret2
 exact⟨rfl,hb1.trans ((Zd hb2).mono hb1.size)⟩
theorem Zo3 (c:Nat)(hc:c≤6)(l:List UInt8)(hl:l.length≤100000)(ps:List Int)(hd:ZC c l= .inl ps)(hps:(Zc ps).length≤1000000)(w:World)(hG:Grd w):
 Calls Tryz.prog 185 #[.int .i64 c,.string (B l)] w fun e w'=>e= .returned (.tuple #[.int .i64 (ZbI c ps false),.bool true])∧Below w.heap.size w w':=by
 have hle:=fun w=>ZgB c w;rw [decide_eq_true hc] at hle;have hde:=fun w hG=>Zd6 c (by omega) l hl w hG;rw [hd] at hde;unfold ZaV D2V at hde;simp only at hde;have hbd:=fun w=>ZaG 0 0 rfl w;have hsc:=Zqn l ps hd;have hg:Good (B (Zc ps)) ps:=Zk3 hsc;have hp4:=hg.pre;have hsz:=Zt (Zc ps);have hlen:=(ZaL ps).1;have hmm:=@run_makeMap Tryz.prog;have hwt:=fun p w=>Zn4 c hc p w;clear hd hsc;generalize B (Zc ps)=s at*;go_enter Tryz.func185,Tryz.ntmps185
 go_wp2_with (first
  |(go_at_call 16;refine(hle _).mono ?_;rintro e w1 ⟨rfl,rfl⟩)
  |(go_at_call 62;refine(hde _ hG).mono ?_;rintro e w1 ⟨rfl,hb1⟩)
  |(go_at_call 8;refine(hbd _).mono ?_;rintro e w2 ⟨rfl,hb2⟩))
 have hB2:Below w.heap.size w w2:=hb1.trans ((Zd hb2).mono hb1.size);have hit:=World.iter_heap (w2.alloc (.map #[] 0)) s 0;have hmp:=MpW.made w2;clear hb1 hb2 hde hbd hle;have hz3:(w2.alloc (.map #[] 0)).heap.size=w2.heap.size+1:=by simp
 rw [hz3] at hit;go_loopw [9,10] (fun a b wr=>ScRel c s ps w2.heap.size (w2.heap.size+1) (w2.alloc (.map #[] 0)) a b wr) (fun _ _ wr=>s.size+1 - wr.iterPos (w2.heap.size+1))
 case atStart=>
  refine⟨0,0,0,0,false,fun _=>none,Run.zero _,rfl,rfl,Lib.hid (by simp),by omega,by omega,hit,?_,Nat.le_refl _,Lib.hid (fun _ _ h=>by cases h),?_⟩
  · exact hmp.below ((Below.refl _ _).alloc (Nat.le_refl _) _)
  · exact(Below.refl _ _).alloc (by rw [hz3];omega) _
 case round=>
  obtain⟨k,i,n,z,b,M,hrun,rfl,rfl,hsco,hz0,hz1,hK,hM,hn,hMf,hb⟩:=hrel;have hle0:=hrun.le hp4;have hKlt:=ZhC hK;have hzk:=hb.size;have hpos:=ZcI hK;by_cases hk:k<ps.length
  · obtain⟨p,m,hst,hrun',hn1,hn4,hin,hp0,hp1,_⟩:=hrun.step hp4 hk;have hstep:=fun ty=>ZfQ (P:=Tryz.prog) hst (by omega) wr (w2.heap.size+1) hK ty;have hb1:=Lib.below_iterAt hb (k:=w2.heap.size+1) (by omega) s (i+m);have hpk:ps[k]=p:=by rw [hst.2.2.1,List.getD_eq_getElem?_getD,List.getElem?_eq_getElem hk];rfl
    have hpr: -2147483648≤p∧p<2147483648:=by omega
    have hmpi:=hM.same (Lib.iterAt_other wr (w2.heap.size+1) w2.heap.size s (i+m) (by omega));have hKi:(wr.iterAt (w2.heap.size+1) s (i+m)).heap[w2.heap.size+1]? =some (.stringIter s (i+m)):=Lib.iterAt_heap wr (w2.heap.size+1) s i (i+m) hK;have hsn:=ZsS c ps k hk b;rw [hpk] at hsn;have hsn2:ZbI c ps false=(z+scW c p b)+ZbI c (ps.drop (k+1)) (Zct p):=by rw [hsco.out,hsn];omega
    have Hsn:=Lib.hid hsn2;have hww:=Zt2 c p;have hwp:=fun w=>hwt p w;have hca:=fun w=>ZiV p w;have hle:=fun w=>ZiW p w;have hdef:scW c p b=ZbK c p+if b&&Zco p then -3 else 0:=rfl
    have Hfold:Hid (∀q v,(if q=p then some (ZbK c p) else M q)=some v→v=ZbK c q):=Lib.hid fun q v h=>by
     by_cases e:q=p
     · rw [if_pos e] at h;injection h with h;rw [←h,e]
     · rw [if_neg e] at h;exact hMf.out q v h
    have hzi:(wr.iterAt (w2.heap.size+1) s (i+m)).heap.size=wr.heap.size:=by simp [World.iterAt]
    generalize wr.iterAt (w2.heap.size+1) s (i+m)=Wi at*;generalize hvv:ZbK c p=v at*;have Hvv:=Lib.hid hvv;clear hvv hsn hsn2;generalize hcp:Zco p=cp at*;generalize hlp:Zct p=lp at*;have hvr: -1000≤v∧v≤1000:=by omega
    have hpos2:∀wx:World,wx.heap[w2.heap.size+1]? =some (.stringIter s (i+m))→s.size+1 - wx.iterPos (w2.heap.size+1)<s.size+1 - i:=fun wx h=>by rw [ZcI h];omega
    have Hpos2:=Lib.hid hpos2;have Hpos:=Lib.hid hpos;clear hcp hlp hpos2 hK hpos;have hww1:=hww.1;have hww2:=hww.2;cases hMp:M p with
    |some v2=>
     obtain rfl:v2=v:=by rw [hMf.out p v2 hMp,Hvv.out]
     have hMp2:∀k,M p=some k→v2=k:=fun k h=>by rw [hMp] at h;injection h
     have HMP:=Lib.hid hMp;clear hMp;cases b<;>cases cp
     all_goals
      have hdd:scW c p _=_:=hdef;simp only [Bool.and_true,Bool.and_false,Bool.false_eq_true,if_false,if_true] at hdd;rw [hdd] at Hsn;clear hdef hdd;go_wp2_with (first
       |(at_lookup;refine mw_yes rfl _ _ rfl hmpi rfl p rfl hpr HMP.out ?_)
       |(go_at_call 244;refine(hca _).mono ?_;rintro e w6 ⟨rfl,rfl⟩)
       |(go_at_call 245;refine(hle _).mono ?_;rintro e w6 ⟨rfl,rfl⟩))
      go_roundw
      case rel=>
       refine⟨k+1,i+m,n,_,_,M,hrun',rfl,rfl,Lib.hid ?_,?_,?_,hKi,hmpi,by omega,hMf,hb1⟩
       · rw [Hsn.out];omega
       · omega
       · omega
      case measure=>rw [Hpos.out];exact Hpos2.out _ hKi
    |none=>
     have HMP:=Lib.hid hMp;clear hMp;cases b<;>cases cp
     all_goals
      have hdd:scW c p _=_:=hdef;simp only [Bool.and_true,Bool.and_false,Bool.false_eq_true,if_false,if_true] at hdd;rw [hdd] at Hsn;clear hdef hdd;go_wp2_with (first
       |(at_lookup;refine mw_no rfl _ _ rfl hmpi rfl p rfl hpr HMP.out ?_;intro cc)
       |(go_at_call 243;refine(hwp _).mono ?_;rintro e w4 ⟨rfl,hb4⟩;have HB4:=Lib.hid (hb1.trans (hb4.mono (Nat.le_trans (by omega) hb1.size)));have hz4:=hb4.size;have HM4:=Lib.hid (hmpi.below hb4);have HK4:=Lib.hid ((hb4.block _ (by omega)).trans hKi);clear hb4)
       |(at_mapUpdate;refine mw_put rfl _ _ _ rfl HM4.out rfl p rfl hpr v rfl hvr (by omega) ?_;intro w5 hM5 hg5;have HM5:=Lib.hid hM5;have hz5:=hg5.size;have HB5:=Lib.hid (HB4.out.grown hg5 (by omega) (by simp));have HK5:=Lib.hid ((hg5.block _ (by omega) (by simp)).trans HK4.out);clear hM5 hg5)
       |(go_at_call 244;refine(hca _).mono ?_;rintro e w6 ⟨rfl,rfl⟩)
       |(go_at_call 245;refine(hle _).mono ?_;rintro e w6 ⟨rfl,rfl⟩))
      go_roundw
      case rel=>
       refine⟨k+1,i+m,n+1,_,_,_,hrun',rfl,rfl,Lib.hid ?_,?_,?_,HK5.out,HM5.out,by omega,Hfold,HB5.out⟩
       · rw [Hsn.out];omega
       · omega
       · omega
      case measure=>rw [Hpos.out];exact Hpos2.out _ HK5.out
  · obtain rfl:k=ps.length:=by have:=hrun.1;omega
    obtain⟨hi2,_,hie⟩:=hrun.end_ hp4;have hend:=fun ty=>Lib.run_next_end_at (P:=Tryz.prog) wr (w2.heap.size+1) s i ty hK (by simp at hie;omega);have hz:ZbI c ps false=z:=by
     have:=hsco.out;rw [List.drop_length,ZbI] at this;omega
    have Hz:=Lib.hid hz;clear hz hsco hM hMf hi2 hie hrun hle0 hpos;go_wp2_with fail
    go_ret2
    exact⟨Zdk Hz.out.symm rfl,hB2.trans ((((Below.refl _ w2).alloc (Nat.le_refl _) _).trans hb).mono hB2.size)⟩
theorem Zhb (f:UInt8→UInt8→List Int)(hf:∀a b,(Zc (f a b)).length≤8):∀(l:List UInt8) (i:Nat) (ps:List Int),Zj f l i= .inl ps→(Zc ps).length≤4*l.length
 |[],_,ps,h=>by rw [Zj] at h;injection h with h;subst h;simp [Zby]
 |[a],i,ps,h=>by
  rw [Zj] at h;split at h
  · injection h with h;subst h
    have:=(ZaL [(a.toNat:Int)]).2;simpa using this
  · cases h
 |a::b::q,i,ps,h=>by
  rw [Zj] at h;split at h
  · have ih:=Zhb f hf (b::q) (i+1);generalize Zj f (b::q) (i+1)=r at*;cases r with
    |inr n=>cases h
    |inl qs=>
     injection h with h;subst h
     have h1:=ih qs rfl;have h2:=ZbO (a.toNat:Int);simp only [List.cons_append,List.nil_append,Zax,List.length_append,List.length_cons] at*;omega
  · split at h
    · cases h
    · have ih:=Zhb f hf q (i+2);generalize Zj f q (i+2)=r at*;cases r with
      |inr n=>cases h
      |inl qs=>
       injection h with h;subst h
       have h1:=ih qs rfl;have h2:=hf a b;simp only [ZeM,List.length_append,List.length_cons] at*;omega
theorem Zqm {c:Nat} (l:List UInt8)(ps:List Int)(h:ZC c l= .inl ps):(Zc ps).length≤4*l.length:=by
 unfold ZC at h;split at h
 · injection h with h;subst h
   have:=(ZaL (l.map fun x=>ZaR c x.toNat)).2;simpa using this
 · split at h
   · exact Zhb _ (fun a b=>by
      have h1:=ZmR c a b;have h2:=(ZaL (sg2 c a b)).2;omega) l 0 ps h
   · split at h
     · rcases ZdY l with⟨qs,hq,e⟩|⟨n,hq,e⟩
       · rw [e] at h;injection h with h;subst h;rw [Znl hq];omega
       · rw [e] at h;cases h
     · rcases Zgl (c==9) l with⟨qs,hq,e⟩|⟨n,hq,e⟩
       · rw [e] at h;injection h with h;subst h
         have h1:=hq.1;have h2:=(Zlp (c==9) qs).1;have h3:=(ZaL qs).2;have h4:l.length=(ZI (c==9) qs).length:=by
          have:=congrArg List.length h1;simpa using this
         omega
       · rw [e] at h;cases h
theorem Zo1 (c:Nat)(l:List UInt8)(hl:l.length≤100000)(w:World)(hG:Grd w):
 Calls Tryz.prog 185 #[.int .i64 c,.string (B l)] w (Zjr (ZeD c l) w):=by
 unfold ZeD;by_cases hc:c≤6
 · rw [if_pos hc];cases hd:ZC c l with
   |inl ps=>exact Zo3 c hc l hl ps hd (by have:=Zqm l ps hd;omega) w hG
   |inr n=>exact Zo2 c hc l hl n hd w hG
 · rw [if_neg hc];exact Zo4 c (by omega) l w
noncomputable def gstep (l:List UInt8)(c:Nat)(g:Int×Nat×Bool):Int×Nat×Bool:=match ZeD c l with|some s=>if g.1<s then(s,c,true) else g|none=>g
theorem Zq7 (l:List UInt8)(cs:List Nat)(k:Nat)(hk:k<cs.length)(g:Int×Nat×Bool):ZK l (cs.drop k) g=ZK l (cs.drop (k+1)) (gstep l cs[k] g):=by
 rw [List.drop_eq_getElem_cons hk,ZK];rfl
def GsRel (l:List UInt8)(cs:List Nat)(w0:World)(best found guess i:Value)(wr:World):Prop:=
 ∃(k:Nat) (g:Int×Nat×Bool),k≤cs.length∧i= .int .i64 k∧best= .int .i64 g.1∧guess= .int .i64 (g.2.1:Nat)∧found= .bool g.2.2∧Hid (ZK l cs (0,0,false)=ZK l (cs.drop k) g)∧Below w0.heap.size w0 wr
theorem Zog (l:List UInt8)(hl:l.length≤100000)(K cp:Nat)(cs:List Nat)(hn:cs.length≤100)(w:World)(hG:Grd w)(hK:K<w.heap.size)(hcell:∀(j:Nat) (x:Nat),cs[j]? =some x→w.cell? ⟨K,j,none⟩=some (.int .i64 (x:Int))):
 Calls Tryz.prog 112 #[.string (B l),.slice (some ⟨K,0,none⟩) cs.length cp] w fun e w'=>e= .returned (.tuple #[.int .i64 ((ZK l cs (0,0,false)).2.1:Nat),.bool (ZK l cs (0,0,false)).2.2])∧Below w.heap.size w w':=by
 have HC:=Lib.hid hcell;clear hcell;go_enter Tryz.func112,Tryz.ntmps112
 go_wp2_with fail
 go_loopw [6,7,8,15] (fun b f g i wr=>GsRel l cs w b f g i wr) (fun _ _ _ i _=>cs.length - (intOf i).toNat)
 case atStart=>exact⟨0,(0,0,false),Nat.zero_le _,rfl,rfl,rfl,rfl,Lib.hid (by simp),Below.refl _ _⟩
 case round=>
  obtain⟨k,g,hk,rfl,rfl,rfl,rfl,hg,hb⟩:=hrel;obtain⟨g1,g2,g3⟩:=g;by_cases hlt:k<cs.length
  · have hst:=Zq7 l cs k hlt (g1,g2,g3);have hce:=(hb.cell (p:=⟨K,k,none⟩) hK).trans (HC.out k cs[k] (List.getElem?_eq_getElem hlt));have hsc:=fun w hG=>Zo1 cs[k] l hl w hG;unfold gstep at hst;unfold Zjr at hsc;generalize ZeD cs[k] l=r at*;generalize cs[k]=c at*;have hGr:=hG.below hb;cases r with
    |none=>
     have H2:Hid (ZK l cs (0,0,false)=ZK l (cs.drop (k+1)) (g1,g2,g3)):=Lib.hid (by rw [hg.out,hst]);clear hst hg;unfold ScV at hsc;simp only at hsc;go_wp2_with (go_at_call 185;refine(hsc _ hGr).mono ?_;rintro e w1 ⟨rfl,hb1⟩)
     go_roundw
     case rel=>exact⟨k+1,(g1,g2,g3),by omega,by go_num,rfl,rfl,rfl,H2,hb.trans (hb1.mono hb.size)⟩
     case measure=>simp [intOf];omega
    |some z=>
     unfold ScV at hsc;simp only at hsc hst;by_cases hz:g1<z
     · rw [if_pos hz] at hst;have H2:Hid (ZK l cs (0,0,false)=ZK l (cs.drop (k+1)) (z,c,true)):=Lib.hid (by rw [hg.out,hst]);clear hst hg;go_wp2_with (go_at_call 185;refine(hsc _ hGr).mono ?_;rintro e w1 ⟨rfl,hb1⟩)
       go_roundw
       case rel=>exact⟨k+1,(z,c,true),by omega,by go_num,rfl,rfl,rfl,H2,hb.trans (hb1.mono hb.size)⟩
       case measure=>simp [intOf];omega
     · rw [if_neg hz] at hst;have H2:Hid (ZK l cs (0,0,false)=ZK l (cs.drop (k+1)) (g1,g2,g3)):=Lib.hid (by rw [hg.out,hst]);clear hst hg;go_wp2_with (go_at_call 185;refine(hsc _ hGr).mono ?_;rintro e w1 ⟨rfl,hb1⟩)
       go_roundw
       case rel=>exact⟨k+1,(g1,g2,g3),by omega,by go_num,rfl,rfl,rfl,H2,hb.trans (hb1.mono hb.size)⟩
       case measure=>simp [intOf];omega
  · obtain rfl:k=cs.length:=by omega
    have hz:ZK l cs (0,0,false)=(g1,g2,g3):=by rw [hg.out,List.drop_length,ZK]
    have Hz:=Lib.hid hz;clear hz hg;go_wp2_with fail
    go_ret2
    rw [Hz.out];exact⟨rfl,hb⟩
theorem Zey {k fb bud:Value} {det:Value} {T:TypeId} (w:World){w1 w2:World} (h1:Below (w.alloc (.cells #[k,fb,det,bud] T)).heap.size (w.alloc (.cells #[k,fb,det,bud] T)) w1)(h2:Below w1.heap.size w1 w2):
 w2.cell? ⟨w.heap.size,1,none⟩=some fb∧w2.cell? ⟨w.heap.size,2,none⟩=some det:=by
 have e:=heap_alloc_new w (.cells #[k,fb,det,bud] T);have e1:w1.heap[w.heap.size]? =some (.cells #[k,fb,det,bud] T (0,0)):=by rw [h1.block _ (by simp),e]
 have e2:w2.heap[w.heap.size]? =some (.cells #[k,fb,det,bud] T (0,0)):=by rw [h2.block _ (by have:=Za3 h1;omega),e1]
 exact⟨by rw [cell_of_row _ _ 1 _ _ _ e2];rfl,by rw [cell_of_row _ _ 2 _ _ _ e2];rfl⟩
theorem Zez {K:Nat} {a b:Value} {w1 w2:World} (h1:w1.cell? ⟨K,1,none⟩=some a)(h2:w1.cell? ⟨K,2,none⟩=some b)(hb:Below w1.heap.size w1 w2):
 w2.cell? ⟨K,1,none⟩=some a∧w2.cell? ⟨K,2,none⟩=some b:=
 ⟨by rw [hb.cell (World.block_lt_of_cell? _ _ h1),h1],by rw [hb.cell (World.block_lt_of_cell? _ _ h2),h2]⟩
theorem ZgJ (l:List UInt8)(hl:l.length≤100000)(w:World)(hT:Zh w):Calls Tryz.prog 72 #[.string (B l)] w fun e w'=>e= .returned (.bool (Zcf l))∧Below w.heap.size w w':=by
 unfold Zcf;rcases ZdY l with⟨ps,h,e⟩|⟨n,h,e⟩
 · rw [e];exact Zpu (B l) ps h (by rw [Zt];omega) w hT
 · rw [e];exact Zpt (B l) n h (by rw [Zt];omega) w hT
theorem ZoA (l:List UInt8)(hl:l.length≤100000)(w:World)(hG:Grd w):
 Calls Tryz.prog 112 #[.string (B l),.slice (some ⟨w.heap.size,0,none⟩) 7 7] (w.alloc (.cells #[.int .i64 4,.int .i64 6,.int .i64 5,.int .i64 1,.int .i64 2,.int .i64 3,.int .i64 0] 23)) fun e w'=>e= .returned (.tuple #[.int .i64 ((ZK l Zbw (0,0,false)).2.1:Nat),.bool (ZK l Zbw (0,0,false)).2.2])∧Below (w.alloc (.cells #[.int .i64 4,.int .i64 6,.int .i64 5,.int .i64 1,.int .i64 2,.int .i64 3,.int .i64 0] 23)).heap.size (w.alloc (.cells #[.int .i64 4,.int .i64 6,.int .i64 5,.int .i64 1,.int .i64 2,.int .i64 3,.int .i64 0] 23)) w':=
 Zog l hl w.heap.size 7 Zbw (by decide) _ (hG.alloc _) (by simp) fun j x hx=>by
  rw [cell_of_row _ _ j _ _ _ (heap_alloc_new w _)];have:(Zbw.map fun n:Nat=>Value.int .i64 (n:Int))[j]? =some (.int .i64 (x:Int)):=by rw [List.getElem?_map,hx];rfl
  rw [←this];simp [Zbw]
theorem ZoO (l d:List UInt8)(hl:l.length≤100000)(hd:d.length≤100000)(k bud:Int)(fb:Nat)(det:Bool)(w:World)(hG:Grd w):
 Calls Tryz.prog 60 #[.string (B l),.string (B d),.agg #[.int .i64 k,.int .i64 fb,.bool det,.int .i64 bud]] w fun e w'=>e= .returned (.int .i64 (Zcd l d fb det:Nat))∧Below w.heap.size w w':=by
 have hva:=fun w hT=>ZgJ l hl w hT;have hna:=fun w=>ZnQ d hd w;have hgu:=fun w hG=>ZoA l hl w hG;have hR:Zcd l d fb det=if Zcf l then 7 else match Zdd d with
  |some c=>c
  |none=>if det then(match ZfB l with|some c=>c|none=>fb) else fb:=rfl
 have hgl:ZfB l=if(ZK l Zbw (0,0,false)).2.2 then some (ZK l Zbw (0,0,false)).2.1 else none:=rfl
 unfold Ze4 at hna;generalize Zcd l d fb det=R at*;generalize ZfB l=gl at*;generalize Zcf l=ok at*;generalize Zdd d=nm at*;generalize (ZK l Zbw (0,0,false)).2.2=fo at*;generalize (ZK l Zbw (0,0,false)).2.1=gs at*;cases ok
 · cases nm with
   |some c=>
    obtain rfl:R=c:=by rw [hR];rfl
    unfold NmV at hna;simp only at hna;clear hR hgl;go_enter Tryz.func60,Tryz.ntmps60
    go_wp2_with (first
     |(go_at_call 72;refine(hva _ (Zx hG.tabs _)).mono ?_;rintro e w1 ⟨rfl,hb1⟩;have HB1:=Lib.hid hb1;clear hb1)
     |(go_at_call 111;refine(hna _).mono ?_;rintro e w2 ⟨rfl,hb2⟩;have HB2:=Lib.hid ((Zd HB1.out).trans (hb2.mono (Nat.le_of_lt (Za3 HB1.out))));have hF2:=Zey w HB1.out hb2;obtain⟨x1,x2⟩:=hF2;clear hb2)
     |(go_at_call 113;refine(Zea _).mono ?_;rintro e w3 ⟨rfl,rfl⟩)
     |(go_at_call 112;refine(hgu w2 (hG.below HB2.out)).mono ?_;rintro e w4 ⟨rfl,hb4⟩;have HB4:=Lib.hid (HB2.out.trans ((Zd hb4).mono HB2.out.size));have hF4:=Zez x1 x2 (Zd hb4);obtain⟨y1,y2⟩:=hF4;clear hb4))
    go_ret
    exact⟨rfl,HB2.out⟩
   |none=>
    unfold NmV at hna;simp only at hna;cases det
    · obtain rfl:R=fb:=by rw [hR];rfl
      clear hR hgl;go_enter Tryz.func60,Tryz.ntmps60
      go_wp2_with (first
       |(go_at_call 72;refine(hva _ (Zx hG.tabs _)).mono ?_;rintro e w1 ⟨rfl,hb1⟩;have HB1:=Lib.hid hb1;clear hb1)
       |(go_at_call 111;refine(hna _).mono ?_;rintro e w2 ⟨rfl,hb2⟩;have HB2:=Lib.hid ((Zd HB1.out).trans (hb2.mono (Nat.le_of_lt (Za3 HB1.out))));have hF2:=Zey w HB1.out hb2;obtain⟨x1,x2⟩:=hF2;clear hb2)
       |(go_at_call 113;refine(Zea _).mono ?_;rintro e w3 ⟨rfl,rfl⟩)
       |(go_at_call 112;refine(hgu w2 (hG.below HB2.out)).mono ?_;rintro e w4 ⟨rfl,hb4⟩;have HB4:=Lib.hid (HB2.out.trans ((Zd hb4).mono HB2.out.size));have hF4:=Zez x1 x2 (Zd hb4);obtain⟨y1,y2⟩:=hF4;clear hb4))
      go_ret
      exact⟨rfl,HB2.out⟩
    · cases fo
      · obtain rfl:R=fb:=by rw [hR,hgl];rfl
        clear hR hgl;go_enter Tryz.func60,Tryz.ntmps60
        go_wp2_with (first
         |(go_at_call 72;refine(hva _ (Zx hG.tabs _)).mono ?_;rintro e w1 ⟨rfl,hb1⟩;have HB1:=Lib.hid hb1;clear hb1)
         |(go_at_call 111;refine(hna _).mono ?_;rintro e w2 ⟨rfl,hb2⟩;have HB2:=Lib.hid ((Zd HB1.out).trans (hb2.mono (Nat.le_of_lt (Za3 HB1.out))));have hF2:=Zey w HB1.out hb2;obtain⟨x1,x2⟩:=hF2;clear hb2)
         |(go_at_call 113;refine(Zea _).mono ?_;rintro e w3 ⟨rfl,rfl⟩)
         |(go_at_call 112;refine(hgu w2 (hG.below HB2.out)).mono ?_;rintro e w4 ⟨rfl,hb4⟩;have HB4:=Lib.hid (HB2.out.trans ((Zd hb4).mono HB2.out.size));have hF4:=Zez x1 x2 (Zd hb4);obtain⟨y1,y2⟩:=hF4;clear hb4))
        go_ret
        exact⟨rfl,HB4.out⟩
      · obtain rfl:R=gs:=by rw [hR,hgl];rfl
        clear hR hgl;go_enter Tryz.func60,Tryz.ntmps60
        go_wp2_with (first
         |(go_at_call 72;refine(hva _ (Zx hG.tabs _)).mono ?_;rintro e w1 ⟨rfl,hb1⟩;have HB1:=Lib.hid hb1;clear hb1)
         |(go_at_call 111;refine(hna _).mono ?_;rintro e w2 ⟨rfl,hb2⟩;have HB2:=Lib.hid ((Zd HB1.out).trans (hb2.mono (Nat.le_of_lt (Za3 HB1.out))));have hF2:=Zey w HB1.out hb2;obtain⟨x1,x2⟩:=hF2;clear hb2)
         |(go_at_call 113;refine(Zea _).mono ?_;rintro e w3 ⟨rfl,rfl⟩)
         |(go_at_call 112;refine(hgu w2 (hG.below HB2.out)).mono ?_;rintro e w4 ⟨rfl,hb4⟩;have HB4:=Lib.hid (HB2.out.trans ((Zd hb4).mono HB2.out.size));have hF4:=Zez x1 x2 (Zd hb4);obtain⟨y1,y2⟩:=hF4;clear hb4))
        go_ret
        exact⟨rfl,HB4.out⟩
 · obtain rfl:R=7:=by rw [hR];rfl
   clear hR hgl;go_enter Tryz.func60,Tryz.ntmps60
   go_wp2_with (first
    |(go_at_call 72;refine(hva _ (Zx hG.tabs _)).mono ?_;rintro e w1 ⟨rfl,hb1⟩;have HB1:=Lib.hid hb1;clear hb1)
    |(go_at_call 111;refine(hna _).mono ?_;rintro e w2 ⟨rfl,hb2⟩;have HB2:=Lib.hid ((Zd HB1.out).trans (hb2.mono (Nat.le_of_lt (Za3 HB1.out))));have hF2:=Zey w HB1.out hb2;obtain⟨x1,x2⟩:=hF2;clear hb2)
    |(go_at_call 113;refine(Zea _).mono ?_;rintro e w3 ⟨rfl,rfl⟩)
    |(go_at_call 112;refine(hgu w2 (hG.below HB2.out)).mono ?_;rintro e w4 ⟨rfl,hb4⟩;have HB4:=Lib.hid (HB2.out.trans ((Zd hb4).mono HB2.out.size));have hF4:=Zez x1 x2 (Zd hb4);obtain⟨y1,y2⟩:=hF4;clear hb4))
   go_ret
   exact⟨rfl,Zd HB1.out⟩
end Go.Proofs.YtlglfmbccihopaaGreatDoor
namespace Go.Proofs.YtlglfmbccihopaaGreatDoor
open Go Go.RowKit
theorem ZdJ:ZF 0=true∧cnt true 0=0:=by decide+kernel
theorem Zhi:ZS 176 161 44032:=by
 unfold ZS;rw [if_neg (by decide),if_neg (by decide),if_neg (by decide)];unfold ZaX;rw [if_neg (by decide),if_pos (by decide)];exact .inr ⟨by decide,.inl ⟨0,by decide,ZdJ.1,ZdJ.2,rfl⟩⟩
theorem Zga:sg2 4 176 161=[44032]:=by
 have h:ZbY 176 161=44032:=Znp Zhi;unfold sg2;rw [if_pos rfl,h,if_pos ⟨by decide,by decide⟩]
theorem Zkm:ZC 4 [97,176,161]= .inl [97,44032]:=by
 unfold ZC;rw [if_neg (by decide),if_pos (by decide)];simp only [Zj,Zga];rfl
theorem Zkn:ZC 4 [97,176]= .inr 1:=by
 unfold ZC;rw [if_neg (by decide),if_pos (by decide)];simp only [Zj];rfl
theorem ZjV:Zbe 176 161=[]:=by decide+kernel
theorem eq_lit (l:List UInt8)(c:List UInt8)(h:l≠c):((B l).toList==c)=false:=by
 rw [ByteArray.toList_eq,Zbn,beq_eq_false_iff_ne];exact h
end Go.Proofs.YtlglfmbccihopaaGreatDoor
namespace Go.Proofs.YtlglfmbccihopaaGreatDoor
open Go
inductive Pl where
 |nil
 |one (i:Nat) (still:Bool) (r:Pl)
 |two (i j:Nat) (p q:Pl)
def Pl.depth:Pl→Nat
 | .nil=>0
 | .one _ _ r=>r.depth+1
 | .two _ _ p q=>max p.depth q.depth+1
def Zca (ops:Array Oper):Pl→Array Bool→Bool
 | .nil,listed=>(Region.ready .any ops listed).isEmpty
 | .one i true r,listed=>(Region.ready .any ops listed).contains i&&Region.free .any ops listed i&&Zca ops r (listed.setIfInBounds i true)
 | .one i false r,listed=>(Region.ready .any ops listed==[i])&&Zca ops r (listed.setIfInBounds i true)
 | .two i j p q,listed=>(Region.ready .any ops listed==[i,j])&&Zca ops p (listed.setIfInBounds i true)&&Zca ops q (listed.setIfInBounds j true)
section
variable {P:Program} {l:List Oper} {Q:Exit→Act→World→Prop} {S:World→Prop}
def Zcz (P:Program)(l:List Oper)(Q:Exit→Act→World→Prop)(S:World→Prop)(i:Nat)(R:Act→World→Prop)(a:Act)(w:World):Prop:=
 ∃o,ZaO l i=some o∧(if Region.wanted o (yielded l.toArray a.tmps)=true then o.wp P a w (fun a' w'=>S w'∧R a' w') Q else R (a.put o.dst undef) w)
def ZaT (P:Program)(l:List Oper)(Q:Exit→Act→World→Prop)(S:World→Prop):Pl→Act→World→Prop
 | .nil,a,w=>Q .normal a w
 | .one i true r,a,w=>∃o v,ZaO l i=some o∧YieldsIf P l.toArray S o v a∧ZaT P l Q S r (a.put o.dst v) w
 | .one i false r,a,w=>Zcz P l Q S i (ZaT P l Q S r) a w
 | .two i j p q,a,w=>Zcz P l Q S i (ZaT P l Q S p) a w∧Zcz P l Q S j (ZaT P l Q S q) a w
theorem ZhU {i:Nat} {R R':Act→World→Prop} {a:Act} {w:World} (h:Zcz P l Q S i R a w)(hS:S w)(hR:∀a w,S w→R a w→R' a w):
 Zcz P l Q S i R' a w:=by
 obtain⟨o,ho,hr⟩:=h;refine⟨o,ho,?_⟩;split
 · rename_i hw
   rw [if_pos hw] at hr;exact Oper.wp_mono (fun a' w' hh=>⟨hh.1,hR _ _ hh.1 hh.2⟩) hr
 · rename_i hw
   rw [if_neg hw] at hr;exact hR _ _ hS hr
theorem Zee (hsel:Region.noSelect l.toArray=true)(hQ:∀c (a:Act) d v w,Q (.panic c) (a.put d v) w→Q (.panic c) a w):
 ∀(pl:Pl) (fuel:Nat) (listed:Array Bool) (a:Act) (w:World),Zca l.toArray pl listed=true→pl.depth≤fuel→S w→ZaT P l Q S pl a w→wpAnyH P .any l.toArray Q S fuel listed a w
 | .nil,fuel,listed,a,w,hok,_,_,h=>wpAnyH_done (by simpa [Zca] using hok) h fuel
 | .one i b r,0,listed,a,w,hok,hf,hS,h=>by simp [Pl.depth] at hf
 | .two i j p q,0,listed,a,w,hok,hf,hS,h=>by simp [Pl.depth] at hf
 | .one i true r,fuel+1,listed,a,w,hok,hf,hS,h=>by
  obtain⟨o,v,ho,hy,hr⟩:=h;simp only [Zca,Bool.and_eq_true] at hok;obtain⟨⟨h1,h2⟩,h3⟩:=hok;rw [Zdh] at ho;exact wpAnyH_take ho hsel h2 h1 (fun c a w=>hQ c a _ _ w) hy hS (Zee hsel hQ r fuel _ _ w h3 (by simpa [Pl.depth] using hf) hS hr)
 | .one i false r,fuel+1,listed,a,w,hok,hf,hS,h=>by
  simp only [Zca,Bool.and_eq_true,beq_iff_eq] at hok;obtain⟨h1,h3⟩:=hok;refine wpAnyH_all h1 (by simp) fun j hj=> ?_;have hj':j=i:=by simpa using hj
  subst hj';obtain⟨o,ho,hr⟩:=ZhU h hS (fun a w hS hr=>Zee hsel hQ r fuel _ a w h3 (by simpa [Pl.depth] using hf) hS hr);rw [Zdh] at ho;unfold wpOp;rw [ho];simp only;split
  · rename_i hw
    rw [if_pos hw] at hr;exact .inl hr
  · rename_i hw
    rw [if_neg hw] at hr;exact⟨hS,hr⟩
 | .two i k p q,fuel+1,listed,a,w,hok,hf,hS,h=>by
  simp only [Zca,Bool.and_eq_true,beq_iff_eq] at hok;obtain⟨⟨h1,h3⟩,h4⟩:=hok;have hd:max p.depth q.depth≤fuel:=by simpa [Pl.depth] using hf
  refine wpAnyH_all h1 (by simp) fun j hj=> ?_;have hj':j=i∨j=k:=by simpa using hj
  rcases hj' with rfl|rfl
  · obtain⟨o,ho,hr⟩:=ZhU h.1 hS (fun a w hS hr=>Zee hsel hQ p fuel _ a w h3 (by omega) hS hr);rw [Zdh] at ho;unfold wpOp;rw [ho];simp only;split
    · rename_i hw
      rw [if_pos hw] at hr;exact .inl hr
    · rename_i hw
      rw [if_neg hw] at hr;exact⟨hS,hr⟩
  · obtain⟨o,ho,hr⟩:=ZhU h.2 hS (fun a w hS hr=>Zee hsel hQ q fuel _ a w h4 (by omega) hS hr);rw [Zdh] at ho;unfold wpOp;rw [ho];simp only;split
    · rename_i hw
      rw [if_pos hw] at hr;exact .inl hr
    · rename_i hw
      rw [if_neg hw] at hr;exact⟨hS,hr⟩
theorem ZeT {id:Nat} {a:Act} {w:World} (S:World→Prop)(pl:Pl)(hm:P.follows .mixedOrders=true)(hsel:Region.noSelect l.toArray=true)
 (hok:Zca l.toArray pl (Array.replicate l.toArray.size false)=true) (hlen:pl.depth≤l.toArray.size)
 (hQ:∀c (a:Act) d v w,Q (.panic c) (a.put d v) w→Q (.panic c) a w) (hS:S w.drew) (h:ZaT P l Q S pl a w.drew):(Code.region id l.toArray true).wp P Q a w:=
 wp_region_held_drew hm hS fun hS=>Zee hsel hQ pl _ _ a w.drew hok hlen hS h
theorem Zcv {a:Act} {w:World} (h:Q .normal a w):ZaT P l Q S .nil a w:=h
theorem Zbb {i:Nat} {r:Pl} {o:Oper} {a:Act} {w:World} (ho:ZaO l i=some o)(hw:Region.wanted o (yielded l.toArray a.tmps)=false)(h:ZaT P l Q S r (a.put o.dst undef) w):ZaT P l Q S (.one i true r) a w:=
 ⟨o,undef,ho,.inr ⟨hw,rfl⟩,h⟩
theorem ZH {i:Nat} {r:Pl} {o:Oper} {a:Act} {w:World} (ho:ZaO l i=some o)(hw:Region.wanted o (yielded l.toArray a.tmps)=true)(v:Value)(hv:∀w,S w→(execOp a.eval o).run P w= .ok (.value v) w)(h:ZaT P l Q S r (a.put o.dst v) w):ZaT P l Q S (.one i true r) a w:=
 ⟨o,v,ho,.inl ⟨hw,hv⟩,h⟩
theorem ZJ {i:Nat} {R:Act→World→Prop} {o:Oper} {a:Act} {w:World} (ho:ZaO l i=some o)(hw:Region.wanted o (yielded l.toArray a.tmps)=true)
 (h:∀K:Act→World→Prop,Shut (∀a w,S w→R a w→K a w)→o.wp P a w K Q):Zcz P l Q S i R a w:=
 ⟨o,ho,by rw [if_pos hw];exact h _ (fun a w hS hr=>⟨hS,hr⟩)⟩
theorem Zal {i:Nat} {r:Pl} {a:Act} {w:World} (h:Zcz P l Q S i (ZaT P l Q S r) a w):ZaT P l Q S (.one i false r) a w:=h
theorem ZfX {i j:Nat} {p q:Pl} {a:Act} {w:World} (h1:Zcz P l Q S i (ZaT P l Q S p) a w)(h2:Zcz P l Q S j (ZaT P l Q S q) a w):ZaT P l Q S (.two i j p q) a w:=⟨h1,h2⟩
end
end Go.Proofs.YtlglfmbccihopaaGreatDoor
