/- Lemmas for a statement on the tops; conditions: as each says. -/
import Derived.Laws.AppendOwnNone
import Derived.Test.YtnbkfkbcpfkddaaGreatDoorM28
set_option linter.unusedVariables false
set_option linter.unusedSimpArgs false
set_option maxRecDepth 100000
set_option maxHeartbeats 4000000
namespace Go.Proofs.YtnbkfkbcpfkddaaGreatDoor
open Go Go.RowKit
theorem ZoS (c:UInt8):Zbs c=(!((decide ((c.toNat:Int)<32)||decide ((c.toNat:Int)>125))||decide ((c.toNat:Int)=61))):=by
 unfold Zbs;have h61:(c==61)=decide ((c.toNat:Int)=61):=by
  rw [Bool.eq_iff_iff];simp only [beq_iff_eq,decide_eq_true_eq];constructor
  · intro h;rw [h];rfl
  · intro h;exact UInt8.toNat_inj.1 (by show c.toNat=61;omega)
 rw [h61,Bool.eq_iff_iff];simp;omega
theorem ZfS (t:List UInt8):∀k,k≤t.length→(∀j (h:j<t.length),j<k→Zbs t[j]=true)→Zr t=k+Zr (t.drop k)
 |0,_,_=>by simp
 |k+1,hk,h=>by
  rw [ZfS t k (by omega) (fun j hj hjk=>h j hj (by omega)),List.drop_eq_getElem_cons (show k<t.length by omega),Zr,if_pos (h k (by omega) (by omega))];omega
def AhRel (t:List UInt8)(i:Value):Prop:=∃k:Nat,k≤t.length∧i= .int .i64 k∧∀j (h:j<t.length),j<k→Zbs t[j]=true
theorem ZhC (t:List UInt8)(ht:t.length≤1000000000)(w:World):
 Calls Tryz.prog 193 #[.string (B t)] w fun e w'=>e= .returned (.int .i64 (Zr t))∧Below w.heap.size w w':=by
 have hsz:=Zm t;generalize hP:(fun(e:Ending) (w':World)=>e= .returned (.int .i64 (Zr t))∧Below w.heap.size w w')=P at*;have hP2:∀(k:Nat) w',Zr t=k→Below w.heap.size w w'→P (.returned (.int .i64 k)) w':=fun k w' h1 h2=>by rw [←hP];exact⟨ZdZ (by rw [h1]),h2⟩
 have HP:=Lib.hid hP2;clear hP hP2;go_enter Tryz.func193,Tryz.ntmps193
 go_wp2_with fail
 go_loopw [6] (fun i wr=>AhRel t i∧Below w.heap.size w wr) (fun i _=>t.length - (intOf i).toNat)
 case atStart=>exact⟨⟨0,by omega,rfl,fun j _ h=>by omega⟩,Below.refl _ _⟩
 case round=>
  obtain⟨⟨k,hk,rfl,hok⟩,hbw⟩:=hrel;have Hok:=Lib.hid hok;have Hbw:=Lib.hid hbw;clear hok hbw;by_cases hlt:k<t.length
  · have hg:=Zbp t k hlt;have hcb:=ZoS t[k];by_cases hc:Zbs t[k]=true
    · rw [hc] at hcb;have Hc:=Lib.hid hc;have q1:¬(t[k].toNat:Int)<32:=by simp at hcb;omega
      have q2:¬(t[k].toNat:Int)>125:=by simp at hcb;omega
      have q3:((t[k].toNat:Int)==61)=false:=by simp at hcb⊢;omega
      have q4:decide ((t[k].toNat:Int)<32)=false:=by simpa using q1
      have q5:decide (125<(t[k].toNat:Int))=false:=by simpa using q2
      have q7:((t[k].toNat:Int)==(((⟨#[61]⟩:ByteArray)[0]'(by decide)).toNat:Int))=false:=q3;clear hc hcb;go_wp2_with fail
      go_region
      go_wp2_with fail
      go_roundw
      case rel=>
       refine⟨⟨k+1,by omega,by go_num,fun j hj hjk=> ?_⟩,Hbw.out.drew⟩;by_cases e:j=k
       · subst e;exact Hc.out
       · exact Hok.out j hj (by omega)
      case measure=>simp [intOf];omega
    · have hc':Zbs t[k]=false:=by simpa using hc
      have hw:Zr t=k:=by
       rw [ZfS t k hk Hok.out,List.drop_eq_getElem_cons hlt,Zr,if_neg (by simpa using hc)];rfl
      have HW:=Lib.hid hw;rw [hc'] at hcb;have Hcb:(t[k].toNat:Int)<32∨(¬(t[k].toNat:Int)<32∧(t[k].toNat:Int)>125)∨(¬(t[k].toNat:Int)<32∧¬(t[k].toNat:Int)>125∧(t[k].toNat:Int)=61):=by
       simp at hcb;omega
      clear hc hcb hc' hw;rcases Hcb with q1|⟨q1,q2⟩|⟨q1,q2,q3⟩
      · have q4:decide ((t[k].toNat:Int)<32)=true:=by simpa using q1
        go_wp2_with fail
        refine Zcr (fun _=>True) (.one 0 true (.one 1 true (.one 2 true (.one 3 true (.one 4 true (.one 5 true (.one 6 true (.one 7 true (.one 8 true (.one 9 true (.one 10 true (.one 11 true (.one 12 true (.one 13 true (.one 14 true (.one 15 true (.one 16 true .nil))))))))))))))))) (by kernel_rfl) (by kernel_rfl) (by kernel_rfl) (Nat.le_of_ble_eq_true rfl) (fun _ _ d _ _ h=>by cases d<;>exact h) trivial ?_;refine' Zs rfl (by first|rfl|(go_simp;rfl)|go_simp) _ (fun w hSw=>_) _
        rotate_left
        · go_simp
          try with_reducible rfl
        try simp only [Act.put,List.setIfInBounds_toArray,List.set_cons_zero,List.set_cons_succ]
        refine' Zs rfl (by first|rfl|(go_simp;rfl)|go_simp) _ (fun w hSw=>_) _
        rotate_left
        · go_simp
          try with_reducible rfl
        try simp only [Act.put,List.setIfInBounds_toArray,List.set_cons_zero,List.set_cons_succ]
        refine' Zs rfl (by first|rfl|(go_simp;rfl)|go_simp) _ (fun w hSw=>_) _
        rotate_left
        · go_simp
          try with_reducible rfl
        try simp only [Act.put,List.setIfInBounds_toArray,List.set_cons_zero,List.set_cons_succ]
        refine' Zs rfl (by first|rfl|(go_simp;rfl)|go_simp) _ (fun w hSw=>_) _
        rotate_left
        · go_simp
          try with_reducible rfl
        try simp only [Act.put,List.setIfInBounds_toArray,List.set_cons_zero,List.set_cons_succ]
        refine' Zs rfl (by first|rfl|(go_simp;rfl)|go_simp) _ (fun w hSw=>_) _
        rotate_left
        · go_simp
          try with_reducible rfl
        try simp only [Act.put,List.setIfInBounds_toArray,List.set_cons_zero,List.set_cons_succ]
        refine ZaM rfl (by first|rfl|(go_simp;rfl)|go_simp) ?_
        try simp only [Act.put,List.setIfInBounds_toArray,List.set_cons_zero,List.set_cons_succ]
        refine ZaM rfl (by first|rfl|(go_simp;rfl)|go_simp) ?_
        try simp only [Act.put,List.setIfInBounds_toArray,List.set_cons_zero,List.set_cons_succ]
        refine ZaM rfl (by first|rfl|(go_simp;rfl)|go_simp) ?_
        try simp only [Act.put,List.setIfInBounds_toArray,List.set_cons_zero,List.set_cons_succ]
        refine ZaM rfl (by first|rfl|(go_simp;rfl)|go_simp) ?_
        try simp only [Act.put,List.setIfInBounds_toArray,List.set_cons_zero,List.set_cons_succ]
        refine' Zs rfl (by first|rfl|(go_simp;rfl)|go_simp) _ (fun w hSw=>_) _
        rotate_left
        · go_simp
          try with_reducible rfl
        try simp only [Act.put,List.setIfInBounds_toArray,List.set_cons_zero,List.set_cons_succ]
        refine' Zs rfl (by first|rfl|(go_simp;rfl)|go_simp) _ (fun w hSw=>_) _
        rotate_left
        · go_simp
          try with_reducible rfl
        try simp only [Act.put,List.setIfInBounds_toArray,List.set_cons_zero,List.set_cons_succ]
        refine ZaM rfl (by first|rfl|(go_simp;rfl)|go_simp) ?_
        try simp only [Act.put,List.setIfInBounds_toArray,List.set_cons_zero,List.set_cons_succ]
        refine ZaM rfl (by first|rfl|(go_simp;rfl)|go_simp) ?_
        try simp only [Act.put,List.setIfInBounds_toArray,List.set_cons_zero,List.set_cons_succ]
        refine ZaM rfl (by first|rfl|(go_simp;rfl)|go_simp) ?_
        try simp only [Act.put,List.setIfInBounds_toArray,List.set_cons_zero,List.set_cons_succ]
        refine ZaM rfl (by first|rfl|(go_simp;rfl)|go_simp) ?_
        try simp only [Act.put,List.setIfInBounds_toArray,List.set_cons_zero,List.set_cons_succ]
        refine ZaM rfl (by first|rfl|(go_simp;rfl)|go_simp) ?_
        try simp only [Act.put,List.setIfInBounds_toArray,List.set_cons_zero,List.set_cons_succ]
        refine' Zs rfl (by first|rfl|(go_simp;rfl)|go_simp) _ (fun w hSw=>_) _
        rotate_left
        · go_simp
          try with_reducible rfl
        try simp only [Act.put,List.setIfInBounds_toArray,List.set_cons_zero,List.set_cons_succ]
        refine Zae ?_;go_wp2_with fail
        exact HP.out _ _ HW.out Hbw.out.drew
      · have q4:decide ((t[k].toNat:Int)<32)=false:=by simpa using q1
        have q5:decide (125<(t[k].toNat:Int))=true:=by simpa using q2
        go_wp2_with fail
        refine Zcr (fun _=>True) (.one 0 true (.one 1 true (.one 2 true (.one 3 true (.one 4 true (.one 5 true (.one 6 true (.one 7 true (.one 8 true (.one 9 true (.one 10 true (.one 11 true (.one 12 true (.one 13 true (.one 14 true (.one 15 true (.one 16 true .nil))))))))))))))))) (by kernel_rfl) (by kernel_rfl) (by kernel_rfl) (Nat.le_of_ble_eq_true rfl) (fun _ _ d _ _ h=>by cases d<;>exact h) trivial ?_;refine' Zs rfl (by first|rfl|(go_simp;rfl)|go_simp) _ (fun w hSw=>_) _
        rotate_left
        · go_simp
          try with_reducible rfl
        try simp only [Act.put,List.setIfInBounds_toArray,List.set_cons_zero,List.set_cons_succ]
        refine' Zs rfl (by first|rfl|(go_simp;rfl)|go_simp) _ (fun w hSw=>_) _
        rotate_left
        · go_simp
          try with_reducible rfl
        try simp only [Act.put,List.setIfInBounds_toArray,List.set_cons_zero,List.set_cons_succ]
        refine' Zs rfl (by first|rfl|(go_simp;rfl)|go_simp) _ (fun w hSw=>_) _
        rotate_left
        · go_simp
          try with_reducible rfl
        try simp only [Act.put,List.setIfInBounds_toArray,List.set_cons_zero,List.set_cons_succ]
        refine' Zs rfl (by first|rfl|(go_simp;rfl)|go_simp) _ (fun w hSw=>_) _
        rotate_left
        · go_simp
          try with_reducible rfl
        try simp only [Act.put,List.setIfInBounds_toArray,List.set_cons_zero,List.set_cons_succ]
        refine' Zs rfl (by first|rfl|(go_simp;rfl)|go_simp) _ (fun w hSw=>_) _
        rotate_left
        · go_simp
          try with_reducible rfl
        try simp only [Act.put,List.setIfInBounds_toArray,List.set_cons_zero,List.set_cons_succ]
        refine' Zs rfl (by first|rfl|(go_simp;rfl)|go_simp) _ (fun w hSw=>_) _
        rotate_left
        · go_simp
          try with_reducible rfl
        try simp only [Act.put,List.setIfInBounds_toArray,List.set_cons_zero,List.set_cons_succ]
        refine' Zs rfl (by first|rfl|(go_simp;rfl)|go_simp) _ (fun w hSw=>_) _
        rotate_left
        · go_simp
          try with_reducible rfl
        try simp only [Act.put,List.setIfInBounds_toArray,List.set_cons_zero,List.set_cons_succ]
        refine' Zs rfl (by first|rfl|(go_simp;rfl)|go_simp) _ (fun w hSw=>_) _
        rotate_left
        · go_simp
          try with_reducible rfl
        try simp only [Act.put,List.setIfInBounds_toArray,List.set_cons_zero,List.set_cons_succ]
        refine' Zs rfl (by first|rfl|(go_simp;rfl)|go_simp) _ (fun w hSw=>_) _
        rotate_left
        · go_simp
          try with_reducible rfl
        try simp only [Act.put,List.setIfInBounds_toArray,List.set_cons_zero,List.set_cons_succ]
        refine' Zs rfl (by first|rfl|(go_simp;rfl)|go_simp) _ (fun w hSw=>_) _
        rotate_left
        · go_simp
          try with_reducible rfl
        try simp only [Act.put,List.setIfInBounds_toArray,List.set_cons_zero,List.set_cons_succ]
        refine' Zs rfl (by first|rfl|(go_simp;rfl)|go_simp) _ (fun w hSw=>_) _
        rotate_left
        · go_simp
          try with_reducible rfl
        try simp only [Act.put,List.setIfInBounds_toArray,List.set_cons_zero,List.set_cons_succ]
        refine ZaM rfl (by first|rfl|(go_simp;rfl)|go_simp) ?_
        try simp only [Act.put,List.setIfInBounds_toArray,List.set_cons_zero,List.set_cons_succ]
        refine ZaM rfl (by first|rfl|(go_simp;rfl)|go_simp) ?_
        try simp only [Act.put,List.setIfInBounds_toArray,List.set_cons_zero,List.set_cons_succ]
        refine ZaM rfl (by first|rfl|(go_simp;rfl)|go_simp) ?_
        try simp only [Act.put,List.setIfInBounds_toArray,List.set_cons_zero,List.set_cons_succ]
        refine ZaM rfl (by first|rfl|(go_simp;rfl)|go_simp) ?_
        try simp only [Act.put,List.setIfInBounds_toArray,List.set_cons_zero,List.set_cons_succ]
        refine ZaM rfl (by first|rfl|(go_simp;rfl)|go_simp) ?_
        try simp only [Act.put,List.setIfInBounds_toArray,List.set_cons_zero,List.set_cons_succ]
        refine' Zs rfl (by first|rfl|(go_simp;rfl)|go_simp) _ (fun w hSw=>_) _
        rotate_left
        · go_simp
          try with_reducible rfl
        try simp only [Act.put,List.setIfInBounds_toArray,List.set_cons_zero,List.set_cons_succ]
        refine Zae ?_;go_wp2_with fail
        exact HP.out _ _ HW.out Hbw.out.drew
      · have q4:decide ((t[k].toNat:Int)<32)=false:=by simpa using q1
        have q5:decide (125<(t[k].toNat:Int))=false:=by simpa using q2
        have q6:((t[k].toNat:Int)==61)=true:=by simpa using q3
        have q7:((t[k].toNat:Int)==(((⟨#[61]⟩:ByteArray)[0]'(by decide)).toNat:Int))=true:=q6;go_wp2_with fail
        go_region
        go_wp2_with fail
        exact HP.out _ _ HW.out Hbw.out.drew
  · have hk':k=t.length:=by omega
    subst hk';have hw:Zr t=t.length:=by
     rw [ZfS t _ hk Hok.out,List.drop_length,Zr];rfl
    have HW:=Lib.hid hw;clear hw;go_wp2_with fail
    exact HP.out _ _ HW.out Hbw.out
theorem ZlD (t:List UInt8)(ht:t.length≤1000000000)(w:World):
 Calls Tryz.prog 155 #[.string (B t)] w fun e w'=>e= .returned (.bool (!(t==[])&&Zr t==t.length))∧Below w.heap.size w w':=by
 have hsz:=Zm t;have hah:=fun w=>ZhC t ht w;by_cases h0:t=[]
 · subst h0;rw [show B []=⟨#[]⟩ from rfl] at*;go_enter Tryz.func155,Tryz.ntmps155
   go_wp2_with fail
   go_ret
   exact⟨rfl,Below.refl _ _⟩
 · have hB:=eq_lit t [] h0;have h1:(t==[])=false:=by simpa using h0
   have h2:((Zr t:Int)==(t.length:Int))=(Zr t==t.length):=by
    rw [Bool.eq_iff_iff];simp;omega
   rw [h1];have H2:=Lib.hid h2;clear h1 h2 h0;go_enter Tryz.func155,Tryz.ntmps155
   go_wp2_with (go_at_call 193;refine(hah _).mono ?_;rintro e w1 ⟨rfl,hb1⟩)
   go_ret
   exact⟨by rw [←H2.out];rfl,hb1⟩
theorem Zfx (n:Nat)(hn:n≤1000000000)(w:World):
 Calls Tryz.prog 78 #[.int .i64 n] w fun e w'=>e= .returned (.string (B (Zf n 4)))∧Below w.heap.size w w':=by
 have hs:=fun w=>Zdz n 4 (by omega) (by decide) (by decide) w;go_enter Tryz.func78,Tryz.ntmps78
 go_wp2_with (go_at_call 85;refine(hs _).mono ?_;rintro e w1 ⟨rfl,hb1⟩)
 go_ret
 exact⟨rfl,hb1⟩
def ZaV (K:Nat)(kd bud:Int)(fb:Nat)(det:Bool):Array Value:=#[.pointer (some ⟨K,0,none⟩),.int .i64 kd,.int .i64 fb,.bool det,.int .i64 bud]
def lfC (_fb:Nat)(_det:Bool)(l:List UInt8):Except (Nat×Nat) Lf:=if Zbj l then .ok ⟨l,7⟩ else .error (2,0)
theorem ZjI {fb:Nat} {det:Bool} {l:List UInt8} {v:Lf} (h:lfC fb det l= .ok v):Zbj l=true∧v=⟨l,7⟩:=by
 unfold lfC at h;split at h
 · next hu=>injection h with h;exact⟨hu,h.symm⟩
 · cases h
theorem Zmw (l:List UInt8)(hl:l.length≤100000)(hu:Zbj l=true)(k bud fb:Int)(det:Bool)(w:World)(hG:Grd w):
 Calls Tryz.prog 64 #[.string (B l),.string ⟨#[]⟩,.agg #[.int .i64 k,.int .i64 fb,.bool det,.int .i64 bud]] w fun e w'=>e= .returned (.int .i64 7)∧Below w.heap.size w w':=by
 have hva:=fun w hT=>ZfF l hl w hT;rw [hu] at hva;clear hu;go_enter Tryz.func64,Tryz.ntmps64
 go_wp2_with (go_at_call 123;refine(hva _ (ZG hG.tabs _)).mono ?_;rintro e w1 ⟨rfl,hb1⟩;have HB1:=Lib.hid hb1;clear hb1)
 go_ret
 exact⟨rfl,Zh HB1.out⟩
theorem ZlU (l:List UInt8)(hl:l.length≤100000)(hu:Zbj l=true)(w:World)(hG:Grd w):
 Calls Tryz.prog 66 #[.int .i64 7,.string (B l)] w fun e w'=>e= .returned (.tuple #[.string (B l),.agg #[.int .i64 0,.int .i64 0]])∧Below w.heap.size w w':=by
 have hd:=ZlK l hl w hG;unfold Zbj at hu;rcases Zhq l with⟨ps,hg,e⟩|⟨n,_,e⟩
 · rw [e] at hd;unfold Za4 D2V at hd;simp only at hd;rw [Zlt hg] at hd;exact hd
 · rw [e] at hu;cases hu
theorem Bx.five {w:World} {g:Nat} {a b c d e:Value} {T:TypeId} (h:Bx w g #[a,b,c,d,e] T):w.cell? ⟨g,0,none⟩=some a∧w.cell? ⟨g,1,none⟩=some b∧w.cell? ⟨g,2,none⟩=some c∧w.cell? ⟨g,3,none⟩=some d∧w.cell? ⟨g,4,none⟩=some e:=
 ⟨h.cell 0,h.cell 1,h.cell 2,h.cell 3,h.cell 4⟩
theorem Zny (s:InS):(s.small 4).1<4294967296:=by
 unfold InS.small;simp only [Nat.min_eq_left (show 4≤8 by decide)];have h1:=ZcS s 4;have h2:=Zfh (s.take 4).1;exact Nat.lt_of_lt_of_le h2 (Nat.pow_le_pow_right (by decide) h1)
theorem Zie (K:Nat)(s:InS)(kd bud:Int)(fb:Nat)(det:Bool)(w:World)(h:InAt w K s):
 Calls Tryz.prog 117 #[.agg (ZaV K kd bud fb det)] w (ZD K w (.tuple #[.string (B (ZS s).1),.int .i64 ((ZS s).2.1:Nat)]) (ZS s).2.2):=by
 have hlt:=h.lt;have X0:=Lib.hid (Bx.new w (ZaV K kd bud fb det) 192);have H0:=Lib.hid (h.alloc (.cells (ZaV K kd bud fb det) 192));have L0:=Lib.hid ((Below.refl w.heap.size w).alloc (Nat.le_refl _) (.cells (ZaV K kd bud fb det) 192));have hsm:=fun w h=>ZcW K s 4 (by decide) w h;have hn:=Zny s;unfold ZD at hsm;obtain⟨n,s1,e1⟩:∃n s1,s.small 4=(n,s1):=⟨_,_,rfl⟩
 rw [e1] at hsm hn;simp only at hsm hn;have hat:=fun w h=>Zdu K s1 w h;have htk:=fun w h=>ZdA K s1 n (by omega) (by omega) w h;unfold ZD at htk;rw [Int.toNat_natCast] at htk;have hz:ZS s=((s1.take n).1,s1.at_,(s1.take n).2):=by unfold ZS;simp only [e1]
 rw [hz];simp only;clear hz e1;generalize B (s1.take n).1=T at*;generalize (s1.take n).2=s2 at*;generalize hP:ZD K w (.tuple #[.string T,.int .i64 (s1.at_:Nat)]) s2=P at*;have hP2:∀w',InAt w' K s2→But K w.heap.size w w'→P (.returned (.tuple #[.string T,.int .i64 (s1.at_:Nat)])) w':=fun w' h1 h2=>by rw [←hP];exact⟨rfl,h1,h2⟩
 have HP:=Lib.hid hP2;clear hP hP2 h;have x0:=X0.out.cell 0;unfold ZaV at*;go_enter Tryz.func117,Tryz.ntmps117
 go_wp2_with (first
  |(go_at_call 119;refine(hsm _ H0.out).mono ?_;rintro e w1 ⟨rfl,h1,hb1⟩;have X1:=Lib.hid (X0.out.but hb1 (by omega));have H1:=Lib.hid h1;have L1:=Lib.hid ((But.of L0.out).trans (hb1.mono L0.out.size));have x1:=X1.out.cell 0;clear h1)
  |(go_at_call 57;refine(hat _ H1.out).mono ?_;rintro e w2 ⟨rfl,rfl⟩)
  |(go_at_call 59;refine(htk _ H1.out).mono ?_;rintro e w3 ⟨rfl,h3,hb3⟩;have H3:=Lib.hid h3;have L3:=Lib.hid (L1.out.trans (hb3.mono L1.out.size));clear h3 hb3))
 exact HP.out _ H3.out L3.out
theorem ZhN (K:Nat)(s:InS)(kd bud:Int)(fb:Int)(det:Bool)(l:List UInt8)(hl:l.length≤100000)(hu:Zbj l=true)(k:Int)(w:World)(hG:Grd w)(h:InAt w K s):
 Calls Tryz.prog 118 #[.agg #[.pointer (some ⟨K,0,none⟩),.int .i64 kd,.int .i64 fb,.bool det,.int .i64 bud],.string (B l),.int .i64 k] w (ZD K w (.agg #[.string (B l),.int .i64 7]) s):=by
 have hlt:=h.lt;have X0:=Lib.hid ((Bx.new w #[.pointer (some ⟨K,0,none⟩),.int .i64 kd,.int .i64 fb,.bool det,.int .i64 bud] 192).alloc (.cells #[.string ⟨#[]⟩,.int .i64 0] 30));have R0:=Lib.hid (Bx.new (w.alloc (.cells #[.pointer (some ⟨K,0,none⟩),.int .i64 kd,.int .i64 fb,.bool det,.int .i64 bud] 192)) #[.string ⟨#[]⟩,.int .i64 0] 30);rw [World.size_alloc] at R0;have H0:=Lib.hid ((h.alloc (.cells #[.pointer (some ⟨K,0,none⟩),.int .i64 kd,.int .i64 fb,.bool det,.int .i64 bud] 192)).alloc (.cells #[.string ⟨#[]⟩,.int .i64 0] 30));have L0:=Lib.hid (((Below.refl _ w).alloc (Nat.le_refl _) (.cells #[.pointer (some ⟨K,0,none⟩),.int .i64 kd,.int .i64 fb,.bool det,.int .i64 bud] 192)).alloc (by simp) (.cells #[.string ⟨#[]⟩,.int .i64 0] 30));have G0:=Lib.hid ((hG.alloc (.cells #[.pointer (some ⟨K,0,none⟩),.int .i64 kd,.int .i64 fb,.bool det,.int .i64 bud] 192)).alloc (.cells #[.string ⟨#[]⟩,.int .i64 0] 30));have hre:=fun w hG=>Zmw l hl hu kd bud fb det w hG;have hde:=fun w hG=>ZlU l hl hu w hG;obtain⟨x0,x1,x2,x3,x4⟩:=X0.out.five;have hbd:=fun w=>ZT 0 0 rfl w;generalize hP:ZD K w (.agg #[.string (B l),.int .i64 7]) s=P at*;have hP2:∀w',InAt w' K s→But K w.heap.size w w'→P (.returned (.agg #[.string (B l),.int .i64 7])) w':=fun w' h1 h2=>by rw [←hP];exact⟨rfl,h1,h2⟩
 have HP:=Lib.hid hP2;clear hP hP2 hu;generalize B l=T at*;go_enter Tryz.func118,Tryz.ntmps118
 go_wp2_with (first
  |(go_at_call 64;refine(hre _ G0.out).mono ?_;rintro e w1 ⟨rfl,hb1⟩;have X1:=Lib.hid (X0.out.below hb1);have R1:=Lib.hid (R0.out.below hb1);have H1:=Lib.hid (H0.out.below hb1);have L1:=Lib.hid (L0.out.trans (hb1.mono L0.out.size));have G1:=Lib.hid (G0.out.below hb1);clear hb1)
  |(go_at_call 66;refine(hde _ G1.out).mono ?_;rintro e w2 ⟨rfl,hb2⟩;have X2:=Lib.hid (X1.out.below hb2);have R2:=Lib.hid (R1.out.below hb2);have H2:=Lib.hid (H1.out.below hb2);have L2:=Lib.hid (L1.out.trans (hb2.mono L1.out.size));clear hb2;have Y2:=Lib.hid (Bx.new w2 #[.int .i64 0,.int .i64 0] 45);have y0:=Y2.out.cell 0;have y1:=Y2.out.cell 1)
  |(go_at_call 8;refine(hbd _).mono ?_;rintro e w3 ⟨rfl,hb3⟩;have X3:=Lib.hid ((X2.out.alloc _).below hb3);have R3:=Lib.hid ((R2.out.alloc _).below hb3);have H3:=Lib.hid ((H2.out.alloc _).below hb3);have Y3:=Lib.hid (Y2.out.below hb3);have L3:=Lib.hid ((L2.out.alloc L2.out.size _).trans (hb3.mono (by have:=L2.out.size;simp;omega)));clear hb3;have x30:=X3.out.cell 0;have y30:=Y3.out.cell 0;have y31:=Y3.out.cell 1;have r30:=R3.out.cell 0;have r31:=R3.out.cell 1;have q30:=R3.out.free 0;have q31:=R3.out.free 1))
 have z1:=Za9 R3.out (.string T) (.int .i64 7);refine bodyPost_ret (results_cell_row rfl _ _ (w.heap.size+1) _ _ _ _ rfl z1 Tryz.underlying30 rfl (by kernel_rfl)) rfl ?_;exact HP.out _ ((H3.out.set (by omega) 0 _).set (by omega) 1 _) (.of ((L3.out.setCell (p:=⟨w.heap.size+1,0,none⟩) (Nat.le_succ _) _).setCell (p:=⟨w.heap.size+1,1,none⟩) (Nat.le_succ _) _))
structure Nx where
 name:List UInt8
 text:List UInt8
 set:Int
def nxV (n:Nx):List Value:=[.string (B n.name),.string (B n.text),.int .i64 n.set]
theorem Zde (n:Nx):(nxV n).length=3:=rfl
def ZdS (t:List UInt8):Bool:= !(t==[])&&Zr t==t.length
def Zcj (n:Nx):Bool:=ZdS n.name&&Zbj n.text
def ckC (v:List UInt8)(ns:List Nx):Bool:=Zbj v&&(ns.all Zcj&&decide (ns.length≤4096))
def Nx.nt (n:Nx):Nt:=⟨n.name,⟨n.text,7⟩⟩
def Nx.up (n:Nx):Nx:=⟨n.name,n.text,7⟩
def bkX (v:List UInt8)(ns:List Nx):Bk:=⟨⟨v,7⟩,ns.map Nx.nt⟩
theorem ZjJ {t:List UInt8} (h:Zbj t=true)(fb:Nat)(det:Bool):lfC fb det t= .ok ⟨t,7⟩:=by
 unfold lfC;rw [if_pos h]
theorem Zii:∀t:List UInt8,Zr t=t.length→t.all Zbs=true
 |[],_=>rfl
 |x::r,h=>by
  unfold Zr at h;split at h
  · next hx=>
    simp only [List.length_cons,Nat.add_right_cancel_iff] at h;simp [hx,Zii r h]
  · simp at h
theorem nt_ok {n:Nx} (h:Zcj n=true)(hs:n.name.length+1+n.text.length<4294967296)(fb:Nat)(det:Bool):NtOk (lfC fb det) n.nt:=by
 unfold Zcj ZdS at h;simp only [Bool.and_eq_true,Bool.not_eq_true',beq_eq_false_iff_ne,beq_iff_eq] at h;exact⟨h.1.1,Zii _ h.1.2,ZjJ h.2 fb det,hs⟩
theorem bk_ok {v:List UInt8} {ns:List Nx} (h:ckC v ns=true)(hv:v.length≤100000)(hn:∀n∈ns,n.name.length≤100000∧n.text.length≤100000)(fb:Nat)(det:Bool):BkOk (lfC fb det) (bkX v ns):=by
 unfold ckC at h;simp only [Bool.and_eq_true,decide_eq_true_eq,List.all_eq_true] at h;refine⟨ZjJ h.1 fb det,by show v.length<_;omega,fun n hm=> ?_,by show(ns.map Nx.nt).length≤4096;rw [List.length_map];exact h.2.2⟩;obtain⟨x,hx,rfl⟩:=List.mem_map.1 hm;exact nt_ok (h.2.1 x hx) (by have:=hn x hx;omega) fb det
theorem ckC_up (v:List UInt8)(ns:List Nx):ckC v (ns.map Nx.up)=ckC v ns:=by
 unfold ckC;rw [List.length_map,List.all_map];rfl
theorem Zla (n:Nat):(Zf n 4).length=4:=rfl
theorem Zk7 (b:List UInt8):(sizedB b).length=4+b.length:=by unfold sizedB;rw [List.length_append,Zla]
theorem ZoV (n:Nx):(ZaZ n.nt).length=5+n.name.length+n.text.length:=by
 unfold ZaZ;rw [Zk7];show 4+(n.name++61::n.text).length=_
 simp only [List.length_append,List.length_cons];omega
theorem ZjZ:∀ns:List Nx,(∀n∈ns,n.name.length≤50∧n.text.length≤150)→(((ns.map Nx.nt).map ZaZ).flatten).length≤ns.length*205
 |[],_=>by simp
 |n::r,h=>by
  have ih:=ZjZ r (fun m hm=>h m (by simp [hm]));have h1:=ZoV n;have h2:=h n (by simp);simp only [List.map_cons,List.flatten_cons,List.length_append,List.length_cons];omega
theorem ZpF {v:List UInt8} {ns:List Nx} (hn:ns.length≤30)(hv:v.length≤150)(h:∀n∈ns,n.name.length≤50∧n.text.length≤150):(ZC false (bkX v ns)).length≤7000:=by
 have h1:=ZjZ ns h;have h2:(sizedB (bkX v ns).vendor.text).length=4+v.length:=Zk7 v;have h3:(ZC false (bkX v ns))=sizedB (bkX v ns).vendor.text++(Zf (bkX v ns).notes.length 4++(((ns.map Nx.nt).map ZaZ).flatten++[])):=rfl;rw [h3];simp only [List.length_append,Zla,h2,List.length_nil];omega
def Zdp (s:Int):Int:=if bits .and .u32 s 2147483648=0 then s*2 % 4294967296 else bits .xor .u32 (s*2 % 4294967296) 79764919
def itS:Nat→Int→Int
 |0,s=>s
 |n+1,s=>Zdp (itS n s)
def hvS (i:Nat):Int:=itS 4 ((i:Int)*268435456)
theorem Zey (op:BinOp)(x y:Int):0≤bits op .u32 x y∧bits op .u32 x y<4294967296:=by
 unfold bits;split<;>(rw [IntKind.wrap_u32];omega)
theorem Zqs (s:Int):0≤Zdp s∧Zdp s<4294967296:=by
 unfold Zdp;split
 · omega
 · exact Zey _ _ _
theorem Zju (s:Int)(h:0≤s∧s<4294967296):∀n,0≤itS n s∧itS n s<4294967296
 |0=>h
 |_+1=>Zqs _
theorem Zjp (i:Nat)(h:i<16):0≤hvS i∧hvS i<4294967296:=Zju _ (by omega) 4
def hvI (k j:Nat):Int:=if j<k then hvS j else 0
def hvA (k:Nat):Array Value:=#[.int .u32 (hvI k 0),.int .u32 (hvI k 1),.int .u32 (hvI k 2),.int .u32 (hvI k 3),.int .u32 (hvI k 4),.int .u32 (hvI k 5),.int .u32 (hvI k 6),.int .u32 (hvI k 7),.int .u32 (hvI k 8),.int .u32 (hvI k 9),.int .u32 (hvI k 10),.int .u32 (hvI k 11),.int .u32 (hvI k 12),.int .u32 (hvI k 13),.int .u32 (hvI k 14),.int .u32 (hvI k 15)]
def hvZ:Array Value:=#[.int .u32 0,.int .u32 0,.int .u32 0,.int .u32 0,.int .u32 0,.int .u32 0,.int .u32 0,.int .u32 0,.int .u32 0,.int .u32 0,.int .u32 0,.int .u32 0,.int .u32 0,.int .u32 0,.int .u32 0,.int .u32 0]
def hvR:Array Value:=#[.int .u32 (hvS 0),.int .u32 (hvS 1),.int .u32 (hvS 2),.int .u32 (hvS 3),.int .u32 (hvS 4),.int .u32 (hvS 5),.int .u32 (hvS 6),.int .u32 (hvS 7),.int .u32 (hvS 8),.int .u32 (hvS 9),.int .u32 (hvS 10),.int .u32 (hvS 11),.int .u32 (hvS 12),.int .u32 (hvS 13),.int .u32 (hvS 14),.int .u32 (hvS 15)]
theorem hvA_16:hvA 16=hvR:=rfl
theorem Zot (k:Nat)(hk:k<16):(hvA k).setIfInBounds k (.int .u32 (hvS k))=hvA (k+1):=by
 unfold hvA;rcases(show k=0∨k=1∨k=2∨k=3∨k=4∨k=5∨k=6∨k=7∨k=8∨k=9∨k=10∨k=11∨k=12∨k=13∨k=14∨k=15 by omega) with rfl|rfl|rfl|rfl|rfl|rfl|rfl|rfl|rfl|rfl|rfl|rfl|rfl|rfl|rfl|rfl
 all_goals rfl
def HvRel (w:World)(i:Value)(wr:World):Prop:=∃k:Nat,k≤16∧i= .int .i64 k∧Hid (Bx wr w.heap.size hvZ 290)∧Hid (Bx wr (w.heap.size+1) (hvA k) 290)∧Hid (Below w.heap.size w wr)
def HiRel (s0:Int)(c s:Value):Prop:=∃m:Nat,m≤4∧c= .int .i64 m∧s= .int .u32 (itS m s0)
theorem ZlZ (w:World):Calls Tryz.prog 230 #[] w fun e w'=>e= .returned (.agg hvR)∧Below w.heap.size w w':=by
 have b1:=(Bx.new w hvZ 290).alloc (.cells hvZ 290);have b2:=Bx.new (w.alloc (.cells hvZ 290)) hvZ 290;rw [World.size_alloc] at b2;have B1:=Lib.hid b1;have B2:=Lib.hid b2;have hb0:Below w.heap.size w ((w.alloc (.cells hvZ 290)).alloc (.cells hvZ 290)):=((Below.refl _ w).alloc (Nat.le_refl _) _).alloc (by simp) _;have HB:=Lib.hid hb0;clear b1 b2 hb0;go_enter Tryz.func230,Tryz.ntmps230
 go_wp2_with fail
 go_loopw [4] (fun i wr=>HvRel w i wr) (fun i _=>16 - (intOf i).toNat)
 case atStart=>exact⟨0,by omega,rfl,B1,B2,HB⟩
 case round=>
  obtain⟨k,hk,rfl,h1,h2,h3⟩:=hrel;by_cases hlt:k<16
  · go_wp2_with fail
    go_loop [10,3] (fun c s=>HiRel ((k:Int)*268435456) c s) (fun c _=>4 - (intOf c).toNat)
    case atStart=>exact⟨0,by omega,rfl,rfl⟩
    case round=>
     obtain⟨m,hm,rfl,rfl⟩:=hrel;have hr:=Zju ((k:Int)*268435456) (by omega) m;by_cases hm4:m<4
     · have hst:itS (m+1) ((k:Int)*268435456)=Zdp (itS m ((k:Int)*268435456)):=rfl;generalize itS m ((k:Int)*268435456)=s at*;unfold Zdp at hst;by_cases hb:bits .and .u32 s 2147483648=0
       · rw [if_pos hb] at hst;have Hst:=Lib.hid hst;clear hst;go_wp2_with fail
         go_round
         case rel=>exact⟨m+1,by omega,by go_num,by rw [Hst.out]⟩
         case measure=>simp [intOf];omega
       · rw [if_neg hb] at hst;have Hst:=Lib.hid hst;clear hst;go_wp2_with fail
         go_round
         case rel=>exact⟨m+1,by omega,by go_num,by rw [Hst.out]⟩
         case measure=>simp [intOf];omega
     · have hm5:m=4:=by omega
       subst hm5;have hput:=Zot k hlt;have hv:itS 4 ((k:Int)*268435456)=hvS k:=rfl;rw [hv] at hr⊢;have Hput:=Lib.hid hput;clear hput hv;generalize hvS k=H at*;have hkk2:((k:Int)).toNat=k:=by omega
       have f0:=h2.out.free k;have c0:∃u,wr.cell? ⟨w.heap.size+1,k,none⟩=some u:=by
        rw [h2.out.cell k];exact⟨_,Array.getElem?_eq_getElem (by unfold hvA;simpa using hlt)⟩
       obtain⟨u,c0⟩:=c0;have hl2:=h2.out.lt;go_wp2_with fail
       go_roundw
       case rel=>exact⟨k+1,by omega,by go_num,Lib.hid (h1.out.set (by omega) k _),Lib.hid (by rw [←Hput.out];exact h2.out.put k _),Lib.hid (h3.out.setCell (by simp) _)⟩
       case measure=>simp [intOf];omega
  · have hk16:k=16:=by omega
    subst hk16;rw [hvA_16] at h2;have f1:=h1.out.free;have HF:=Lib.hid (h1.out.row hvR);have HF2:=Lib.hid (Za8 h3.out (Nat.le_refl _) hvR);go_wp2_with (first
     |(refine wpList_load_row rfl 290 _ rfl (w.heap.size+1) rfl 290 hvR (0,0) _ h2.out Tryz.underlying290 rfl (by kernel_rfl) ?_)
     |(refine wpList_store_row rfl 290 _ _ rfl w.heap.size hvR rfl rfl 290 hvZ h1.out (by kernel_rfl) rfl (by kernel_rfl) ?_))
    refine bodyPost_ret (results_cell_row rfl _ _ w.heap.size _ _ _ _ rfl HF.out Tryz.underlying290 rfl (by kernel_rfl)) rfl ⟨rfl,HF2.out⟩
structure Kp (w0 w:World)(l:List (Nat×Array Value×TypeId)):Prop where
 bx:∀x∈l,Bx w x.1 x.2.1 x.2.2
 low:Below w0.heap.size w0 w
section
variable {w0 w w':World} {l:List (Nat×Array Value×TypeId)} {g:Nat} {cs:Array Value} {T:TypeId}
theorem Kp.start (w:World):Kp w w []:=⟨fun _ h=>(List.not_mem_nil h).elim,Below.refl _ _⟩
theorem Kp.below (h:Kp w0 w l)(hb:Below w.heap.size w w'):Kp w0 w' l:=⟨fun x hx=>(h.bx x hx).below hb,h.low.trans (hb.mono h.low.size)⟩
theorem Kp.new (h:Kp w0 w l)(cs:Array Value)(T:TypeId):Kp w0 (w.alloc (.cells cs T)) ((w.heap.size,cs,T)::l):=
 ⟨fun x hx=>by
  rcases List.mem_cons.1 hx with rfl|hx
  · exact Bx.new w cs T
  · exact(h.bx x hx).alloc _,h.low.alloc h.low.size _⟩
theorem Kp.alloc (h:Kp w0 w l)(o:Obj):Kp w0 (w.alloc o) l:=h.below ((Below.refl _ _).alloc (Nat.le_refl _) _)
theorem Kp.drew (h:Kp w0 w l):Kp w0 w.drew l:=h.below (below_drewN (Below.refl _ _) 1)
theorem Kp.b0 {x:Nat×Array Value×TypeId} (h:Kp w0 w (x::l)):Bx w x.1 x.2.1 x.2.2:=h.bx x (List.mem_cons_self ..)
theorem Kp.tl {x:Nat×Array Value×TypeId} (h:Kp w0 w (x::l)):Kp w0 w l:=⟨fun y hy=>h.bx y (List.mem_cons_of_mem _ hy),h.low⟩
end
theorem Bx.two {w:World} {g:Nat} {a b:Value} {T:TypeId} (h:Bx w g #[a,b] T):w.cell? ⟨g,0,none⟩=some a∧w.cell? ⟨g,1,none⟩=some b:=⟨h.cell 0,h.cell 1⟩
abbrev Pc:=Bool×List UInt8×List UInt8
def mk (s:List UInt8):Pc:=(true,nMark,s)
end Go.Proofs.YtnbkfkbcpfkddaaGreatDoor
