/- Lemmas for a statement on the tops; conditions: as each says. -/
import Derived.Deep.CutBlock
import Derived.Test.YtlglfmbccihopaaGreatDoorM27
set_option linter.unusedVariables false
set_option linter.unusedSimpArgs false
set_option maxRecDepth 100000
set_option maxHeartbeats 4000000
namespace Go.Proofs.YtlglfmbccihopaaGreatDoor
open Go Go.RowKit
theorem ZrC (c:UInt8):ZbS c=(!((decide ((c.toNat:Int)<32)||decide ((c.toNat:Int)>125))||decide ((c.toNat:Int)=61))):=by
 unfold ZbS;have h61:(c==61)=decide ((c.toNat:Int)=61):=by
  rw [Bool.eq_iff_iff];simp only [beq_iff_eq,decide_eq_true_eq];constructor
  · intro h;rw [h];rfl
  · intro h;exact UInt8.toNat_inj.1 (by show c.toNat=61;omega)
 rw [h61,Bool.eq_iff_iff];simp;omega
theorem ZgT (t:List UInt8):∀k,k≤t.length→(∀j (h:j<t.length),j<k→ZbS t[j]=true)→Zs t=k+Zs (t.drop k)
 |0,_,_=>by simp
 |k+1,hk,h=>by
  rw [ZgT t k (by omega) (fun j hj hjk=>h j hj (by omega)),List.drop_eq_getElem_cons (show k<t.length by omega),Zs,if_pos (h k (by omega) (by omega))];omega
def AhRel (t:List UInt8)(i:Value):Prop:=∃k:Nat,k≤t.length∧i= .int .i64 k∧∀j (h:j<t.length),j<k→ZbS t[j]=true
theorem ZiL (t:List UInt8)(ht:t.length≤1000000000)(w:World):
 Calls Tryz.prog 144 #[.string (B t)] w fun e w'=>e= .returned (.int .i64 (Zs t))∧Below w.heap.size w w':=by
 have hsz:=Zt t;generalize hP:(fun(e:Ending) (w':World)=>e= .returned (.int .i64 (Zs t))∧Below w.heap.size w w')=P at*;have hP2:∀(k:Nat) w',Zs t=k→Below w.heap.size w w'→P (.returned (.int .i64 k)) w':=fun k w' h1 h2=>by rw [←hP];exact⟨ZaC (by rw [h1]),h2⟩
 have HP:=Lib.hid hP2;clear hP hP2;go_enter Tryz.func144,Tryz.ntmps144
 go_wp2_with fail
 go_loopw [6] (fun i wr=>AhRel t i∧Below w.heap.size w wr) (fun i _=>t.length - (intOf i).toNat)
 case atStart=>exact⟨⟨0,by omega,rfl,fun j _ h=>by omega⟩,Below.refl _ _⟩
 case round=>
  obtain⟨⟨k,hk,rfl,hok⟩,hbw⟩:=hrel;have Hok:=Lib.hid hok;have Hbw:=Lib.hid hbw;clear hok hbw;by_cases hlt:k<t.length
  · have hg:=getB t k hlt;have hcb:=ZrC t[k];by_cases hc:ZbS t[k]=true
    · rw [hc] at hcb;have Hc:=Lib.hid hc;have q1:¬(t[k].toNat:Int)<32:=by simp at hcb;omega
      have q2:¬(t[k].toNat:Int)>125:=by simp at hcb;omega
      have q3:((t[k].toNat:Int)==61)=false:=by simp at hcb⊢;omega
      have q4:decide ((t[k].toNat:Int)<32)=false:=by simpa using q1
      have q5:decide (125<(t[k].toNat:Int))=false:=by simpa using q2
      have q7:((t[k].toNat:Int)==(((⟨#[61]⟩:ByteArray)[0]'(by decide)).toNat:Int))=false:=q3;clear hc hcb;go_wp2_with fail
      go_region
      go_wp2_with fail
      go_roundw
      case rel=>
       refine⟨⟨k+1,by omega,by go_num,fun j hj hjk=> ?_⟩,Hbw.out.drew⟩;by_cases e:j=k
       · subst e;exact Hc.out
       · exact Hok.out j hj (by omega)
      case measure=>simp [intOf];omega
    · have hc':ZbS t[k]=false:=by simpa using hc
      have hw:Zs t=k:=by
       rw [ZgT t k hk Hok.out,List.drop_eq_getElem_cons hlt,Zs,if_neg (by simpa using hc)];rfl
      have HW:=Lib.hid hw;rw [hc'] at hcb;have Hcb:(t[k].toNat:Int)<32∨(¬(t[k].toNat:Int)<32∧(t[k].toNat:Int)>125)∨(¬(t[k].toNat:Int)<32∧¬(t[k].toNat:Int)>125∧(t[k].toNat:Int)=61):=by
       simp at hcb;omega
      clear hc hcb hc' hw;rcases Hcb with q1|⟨q1,q2⟩|⟨q1,q2,q3⟩
      · have q4:decide ((t[k].toNat:Int)<32)=true:=by simpa using q1
        go_wp2_with fail
        refine ZeT (fun _=>True) (.one 0 true (.one 1 true (.one 2 true (.one 3 true (.one 4 true (.one 5 true (.one 6 true (.one 7 true (.one 8 true (.one 9 true (.one 10 true (.one 11 true (.one 12 true (.one 13 true (.one 14 true (.one 15 true (.one 16 true .nil))))))))))))))))) (by kernel_rfl) (by kernel_rfl) (by kernel_rfl) (Nat.le_of_ble_eq_true rfl) (fun _ _ d _ _ h=>by cases d<;>exact h) trivial ?_;refine' ZH rfl (by first|rfl|(go_simp;rfl)|go_simp) _ (fun w hSw=>_) _
        rotate_left
        · go_simp
          try with_reducible rfl
        try simp only [Act.put,List.setIfInBounds_toArray,List.set_cons_zero,List.set_cons_succ]
        refine' ZH rfl (by first|rfl|(go_simp;rfl)|go_simp) _ (fun w hSw=>_) _
        rotate_left
        · go_simp
          try with_reducible rfl
        try simp only [Act.put,List.setIfInBounds_toArray,List.set_cons_zero,List.set_cons_succ]
        refine' ZH rfl (by first|rfl|(go_simp;rfl)|go_simp) _ (fun w hSw=>_) _
        rotate_left
        · go_simp
          try with_reducible rfl
        try simp only [Act.put,List.setIfInBounds_toArray,List.set_cons_zero,List.set_cons_succ]
        refine' ZH rfl (by first|rfl|(go_simp;rfl)|go_simp) _ (fun w hSw=>_) _
        rotate_left
        · go_simp
          try with_reducible rfl
        try simp only [Act.put,List.setIfInBounds_toArray,List.set_cons_zero,List.set_cons_succ]
        refine' ZH rfl (by first|rfl|(go_simp;rfl)|go_simp) _ (fun w hSw=>_) _
        rotate_left
        · go_simp
          try with_reducible rfl
        try simp only [Act.put,List.setIfInBounds_toArray,List.set_cons_zero,List.set_cons_succ]
        refine Zbb rfl (by first|rfl|(go_simp;rfl)|go_simp) ?_
        try simp only [Act.put,List.setIfInBounds_toArray,List.set_cons_zero,List.set_cons_succ]
        refine Zbb rfl (by first|rfl|(go_simp;rfl)|go_simp) ?_
        try simp only [Act.put,List.setIfInBounds_toArray,List.set_cons_zero,List.set_cons_succ]
        refine Zbb rfl (by first|rfl|(go_simp;rfl)|go_simp) ?_
        try simp only [Act.put,List.setIfInBounds_toArray,List.set_cons_zero,List.set_cons_succ]
        refine Zbb rfl (by first|rfl|(go_simp;rfl)|go_simp) ?_
        try simp only [Act.put,List.setIfInBounds_toArray,List.set_cons_zero,List.set_cons_succ]
        refine' ZH rfl (by first|rfl|(go_simp;rfl)|go_simp) _ (fun w hSw=>_) _
        rotate_left
        · go_simp
          try with_reducible rfl
        try simp only [Act.put,List.setIfInBounds_toArray,List.set_cons_zero,List.set_cons_succ]
        refine' ZH rfl (by first|rfl|(go_simp;rfl)|go_simp) _ (fun w hSw=>_) _
        rotate_left
        · go_simp
          try with_reducible rfl
        try simp only [Act.put,List.setIfInBounds_toArray,List.set_cons_zero,List.set_cons_succ]
        refine Zbb rfl (by first|rfl|(go_simp;rfl)|go_simp) ?_
        try simp only [Act.put,List.setIfInBounds_toArray,List.set_cons_zero,List.set_cons_succ]
        refine Zbb rfl (by first|rfl|(go_simp;rfl)|go_simp) ?_
        try simp only [Act.put,List.setIfInBounds_toArray,List.set_cons_zero,List.set_cons_succ]
        refine Zbb rfl (by first|rfl|(go_simp;rfl)|go_simp) ?_
        try simp only [Act.put,List.setIfInBounds_toArray,List.set_cons_zero,List.set_cons_succ]
        refine Zbb rfl (by first|rfl|(go_simp;rfl)|go_simp) ?_
        try simp only [Act.put,List.setIfInBounds_toArray,List.set_cons_zero,List.set_cons_succ]
        refine Zbb rfl (by first|rfl|(go_simp;rfl)|go_simp) ?_
        try simp only [Act.put,List.setIfInBounds_toArray,List.set_cons_zero,List.set_cons_succ]
        refine' ZH rfl (by first|rfl|(go_simp;rfl)|go_simp) _ (fun w hSw=>_) _
        rotate_left
        · go_simp
          try with_reducible rfl
        try simp only [Act.put,List.setIfInBounds_toArray,List.set_cons_zero,List.set_cons_succ]
        refine Zcv ?_;go_wp2_with fail
        exact HP.out _ _ HW.out Hbw.out.drew
      · have q4:decide ((t[k].toNat:Int)<32)=false:=by simpa using q1
        have q5:decide (125<(t[k].toNat:Int))=true:=by simpa using q2
        go_wp2_with fail
        refine ZeT (fun _=>True) (.one 0 true (.one 1 true (.one 2 true (.one 3 true (.one 4 true (.one 5 true (.one 6 true (.one 7 true (.one 8 true (.one 9 true (.one 10 true (.one 11 true (.one 12 true (.one 13 true (.one 14 true (.one 15 true (.one 16 true .nil))))))))))))))))) (by kernel_rfl) (by kernel_rfl) (by kernel_rfl) (Nat.le_of_ble_eq_true rfl) (fun _ _ d _ _ h=>by cases d<;>exact h) trivial ?_;refine' ZH rfl (by first|rfl|(go_simp;rfl)|go_simp) _ (fun w hSw=>_) _
        rotate_left
        · go_simp
          try with_reducible rfl
        try simp only [Act.put,List.setIfInBounds_toArray,List.set_cons_zero,List.set_cons_succ]
        refine' ZH rfl (by first|rfl|(go_simp;rfl)|go_simp) _ (fun w hSw=>_) _
        rotate_left
        · go_simp
          try with_reducible rfl
        try simp only [Act.put,List.setIfInBounds_toArray,List.set_cons_zero,List.set_cons_succ]
        refine' ZH rfl (by first|rfl|(go_simp;rfl)|go_simp) _ (fun w hSw=>_) _
        rotate_left
        · go_simp
          try with_reducible rfl
        try simp only [Act.put,List.setIfInBounds_toArray,List.set_cons_zero,List.set_cons_succ]
        refine' ZH rfl (by first|rfl|(go_simp;rfl)|go_simp) _ (fun w hSw=>_) _
        rotate_left
        · go_simp
          try with_reducible rfl
        try simp only [Act.put,List.setIfInBounds_toArray,List.set_cons_zero,List.set_cons_succ]
        refine' ZH rfl (by first|rfl|(go_simp;rfl)|go_simp) _ (fun w hSw=>_) _
        rotate_left
        · go_simp
          try with_reducible rfl
        try simp only [Act.put,List.setIfInBounds_toArray,List.set_cons_zero,List.set_cons_succ]
        refine' ZH rfl (by first|rfl|(go_simp;rfl)|go_simp) _ (fun w hSw=>_) _
        rotate_left
        · go_simp
          try with_reducible rfl
        try simp only [Act.put,List.setIfInBounds_toArray,List.set_cons_zero,List.set_cons_succ]
        refine' ZH rfl (by first|rfl|(go_simp;rfl)|go_simp) _ (fun w hSw=>_) _
        rotate_left
        · go_simp
          try with_reducible rfl
        try simp only [Act.put,List.setIfInBounds_toArray,List.set_cons_zero,List.set_cons_succ]
        refine' ZH rfl (by first|rfl|(go_simp;rfl)|go_simp) _ (fun w hSw=>_) _
        rotate_left
        · go_simp
          try with_reducible rfl
        try simp only [Act.put,List.setIfInBounds_toArray,List.set_cons_zero,List.set_cons_succ]
        refine' ZH rfl (by first|rfl|(go_simp;rfl)|go_simp) _ (fun w hSw=>_) _
        rotate_left
        · go_simp
          try with_reducible rfl
        try simp only [Act.put,List.setIfInBounds_toArray,List.set_cons_zero,List.set_cons_succ]
        refine' ZH rfl (by first|rfl|(go_simp;rfl)|go_simp) _ (fun w hSw=>_) _
        rotate_left
        · go_simp
          try with_reducible rfl
        try simp only [Act.put,List.setIfInBounds_toArray,List.set_cons_zero,List.set_cons_succ]
        refine' ZH rfl (by first|rfl|(go_simp;rfl)|go_simp) _ (fun w hSw=>_) _
        rotate_left
        · go_simp
          try with_reducible rfl
        try simp only [Act.put,List.setIfInBounds_toArray,List.set_cons_zero,List.set_cons_succ]
        refine Zbb rfl (by first|rfl|(go_simp;rfl)|go_simp) ?_
        try simp only [Act.put,List.setIfInBounds_toArray,List.set_cons_zero,List.set_cons_succ]
        refine Zbb rfl (by first|rfl|(go_simp;rfl)|go_simp) ?_
        try simp only [Act.put,List.setIfInBounds_toArray,List.set_cons_zero,List.set_cons_succ]
        refine Zbb rfl (by first|rfl|(go_simp;rfl)|go_simp) ?_
        try simp only [Act.put,List.setIfInBounds_toArray,List.set_cons_zero,List.set_cons_succ]
        refine Zbb rfl (by first|rfl|(go_simp;rfl)|go_simp) ?_
        try simp only [Act.put,List.setIfInBounds_toArray,List.set_cons_zero,List.set_cons_succ]
        refine Zbb rfl (by first|rfl|(go_simp;rfl)|go_simp) ?_
        try simp only [Act.put,List.setIfInBounds_toArray,List.set_cons_zero,List.set_cons_succ]
        refine' ZH rfl (by first|rfl|(go_simp;rfl)|go_simp) _ (fun w hSw=>_) _
        rotate_left
        · go_simp
          try with_reducible rfl
        try simp only [Act.put,List.setIfInBounds_toArray,List.set_cons_zero,List.set_cons_succ]
        refine Zcv ?_;go_wp2_with fail
        exact HP.out _ _ HW.out Hbw.out.drew
      · have q4:decide ((t[k].toNat:Int)<32)=false:=by simpa using q1
        have q5:decide (125<(t[k].toNat:Int))=false:=by simpa using q2
        have q6:((t[k].toNat:Int)==61)=true:=by simpa using q3
        have q7:((t[k].toNat:Int)==(((⟨#[61]⟩:ByteArray)[0]'(by decide)).toNat:Int))=true:=q6;go_wp2_with fail
        go_region
        go_wp2_with fail
        exact HP.out _ _ HW.out Hbw.out.drew
  · have hk':k=t.length:=by omega
    subst hk';have hw:Zs t=t.length:=by
     rw [ZgT t _ hk Hok.out,List.drop_length,Zs];rfl
    have HW:=Lib.hid hw;clear hw;go_wp2_with fail
    exact HP.out _ _ HW.out Hbw.out
theorem ZnI (t:List UInt8)(ht:t.length≤1000000000)(w:World):
 Calls Tryz.prog 73 #[.string (B t)] w fun e w'=>e= .returned (.bool (!(t==[])&&Zs t==t.length))∧Below w.heap.size w w':=by
 have hsz:=Zt t;have hah:=fun w=>ZiL t ht w;by_cases h0:t=[]
 · subst h0;rw [show B []=⟨#[]⟩ from rfl] at*;go_enter Tryz.func73,Tryz.ntmps73
   go_wp2_with fail
   go_ret
   exact⟨rfl,Below.refl _ _⟩
 · have hB:=eq_lit t [] h0;have h1:(t==[])=false:=by simpa using h0
   have h2:((Zs t:Int)==(t.length:Int))=(Zs t==t.length):=by
    rw [Bool.eq_iff_iff];simp;omega
   rw [h1];have H2:=Lib.hid h2;clear h1 h2 h0;go_enter Tryz.func73,Tryz.ntmps73
   go_wp2_with (go_at_call 144;refine(hah _).mono ?_;rintro e w1 ⟨rfl,hb1⟩)
   go_ret
   exact⟨by rw [←H2.out];rfl,hb1⟩
theorem Zgu (n:Nat)(hn:n≤1000000000)(w:World):
 Calls Tryz.prog 32 #[.int .i64 n] w fun e w'=>e= .returned (.string (B (ZA n 4)))∧Below w.heap.size w w':=by
 have hs:=fun w=>Zpe n 4 (by omega) (by decide) (by decide) w;go_enter Tryz.func32,Tryz.ntmps32
 go_wp2_with (go_at_call 74;refine(hs _).mono ?_;rintro e w1 ⟨rfl,hb1⟩)
 go_ret
 exact⟨rfl,hb1⟩
theorem ZlE (l:List UInt8):∀(rs:List (List (List UInt8))) (k c:Nat),Zai l rs k=some c→c<k+rs.length
 |[],_,_,h=>by simp [Zai] at h
 |r::rs,k,c,h=>by
  rw [Zai] at h;split at h
  · injection h with h;subst h;simp
  · have:=ZlE l rs (k+1) c h;simp;omega
theorem Zk4 (l:List UInt8):∀(cs:List Nat) (g:Int×Nat×Bool) (m:Nat),(∀c∈cs,c≤m)→g.2.1≤m→(ZK l cs g).2.1≤m
 |[],g,m,_,hg=>by rw [ZK];exact hg
 |c::cs,g,m,h,hg=>by
  rw [ZK];refine Zk4 l cs _ m (fun x hx=>h x (List.mem_cons_of_mem _ hx)) ?_;have hc:=h c (List.mem_cons_self ..);split
  · split
    · exact hc
    · exact hg
  · exact hg
theorem Zsu (l d:List UInt8)(fb:Nat)(det:Bool)(hfb:fb≤9):Zcd l d fb det≤9:=by
 unfold Zcd;split
 · omega
 · split
   · rename_i c h
     unfold Zdd at h;split at h
     · cases h
     · have:=ZlE _ _ _ _ h;have e:Zak.length=10:=by decide
       omega
   · split
     · split
       · rename_i c h
         have h:(if(ZK l Zbw (0,0,false)).2.2 then some (ZK l Zbw (0,0,false)).2.1 else none)=some c:=h;have hg:=Zk4 l Zbw (0,0,false) 6 (by decide) (by decide);split at h
         · injection h with h;omega
         · cases h
       · exact hfb
     · exact hfb
theorem ZtW (big:Bool)(l:List UInt8)(n:Nat)(h:ZbX big l= .inr n):n≤l.length:=by
 rcases Zgl big l with⟨qs,hq,e⟩|⟨m,hq,e⟩
 · rw [e] at h;cases h
 · rw [e] at h;injection h with h;subst h
   obtain⟨ps,r,⟨h1,_⟩,h3,_⟩:=hq;have:=congrArg List.length h1;simp at this;omega
theorem Zql {c:Nat} (l:List UInt8)(n:Nat)(h:ZC c l= .inr n):n≤l.length:=by
 unfold ZC at h;split at h
 · cases h
 · split at h
   · have:=Zha _ l 0 n h;omega
   · split at h
     · rcases ZdY l with⟨qs,hq,e⟩|⟨m,hq,e⟩
       · rw [e] at h;cases h
       · rw [e] at h;injection h with h;subst h
         have h1:=hq.lt;have h2:(⟨l.toArray⟩:ByteArray).size=l.length:=Zt l;omega
     · exact ZtW _ l n h
theorem Zj5 {w:World} {p:Addr} {v:Value} (h:w.cell? p=some v):p.block<w.heap.size:=World.block_lt_of_cell? _ _ h
theorem InAt.ne_u8 {w:World} {K:Nat} {s:InS} (h:InAt w K s){g j:Nat} {z:Int} (hc:w.cell? ⟨g,j,none⟩=some (.int .u8 z)):g≠K:=by
 rintro rfl;rw [cell_of_row _ g j _ _ (0,0) h.row] at hc;unfold five at hc
 match j,hc with
 |0,hc=>simp at hc
 |1,hc=>simp at hc
 |2,hc=>simp at hc
 |3,hc=>simp at hc
 |4,hc=>simp at hc
 |j+5,hc=>simp at hc
theorem Grd.but {w w':World} {K:Nat} {s:InS} (h:Grd w)(hi:InAt w K s)(hb:But K w.heap.size w w'):Grd w':=by
 have hu:∀g j z,w.cell? ⟨g,j,none⟩=some (.int .u8 z)→w'.cell? ⟨g,j,none⟩=some (.int .u8 z):=fun g j z hc=>by
  rw [hb.cell (Zj5 hc) (hi.ne_u8 hc),hc]
 refine⟨⟨fun c hc=>hu _ _ _ (h.tabs.1 c hc),fun i hi2=>⟨hu _ _ _ (h.tabs.2 i hi2).1,hu _ _ _ (h.tabs.2 i hi2).2⟩⟩,fun j hj=>hu _ _ _ (h.db j hj),?_⟩;obtain⟨m,hm⟩:=h.ml;refine⟨m,?_⟩;rw [hb.cell (Zj5 hm) ?_,hm];intro e;have e2:3=K:=e;rw [e2,hi.get.1] at hm;simp at hm
section
variable {w wx wy:World} {K:Nat} {BX:Array Value} {nm:ByteArray} {raw:Bool} {s s':InS}
end
theorem Ziq (s:InS)(k:Nat):(s.take k).1.length≤s.t.length:=by
 unfold InS.take
 (repeat' split)<;>simp
 omega
theorem Bx.six {w:World} {g:Nat} {a b c d e f:Value} {T:TypeId} (h:Bx w g #[a,b,c,d,e,f] T):w.cell? ⟨g,0,none⟩=some a∧w.cell? ⟨g,1,none⟩=some b∧w.cell? ⟨g,2,none⟩=some c∧w.cell? ⟨g,3,none⟩=some d∧w.cell? ⟨g,4,none⟩=some e∧w.cell? ⟨g,5,none⟩=some f:=
 ⟨h.cell 0,h.cell 1,h.cell 2,h.cell 3,h.cell 4,h.cell 5⟩
def Z5 (K:Nat)(kd bud:Int)(fb:Nat)(det:Bool):Array Value:=#[.pointer (some ⟨K,0,none⟩),.int .i64 kd,.int .i64 fb,.bool det,.int .i64 bud]
noncomputable def lfC (fb:Nat)(det:Bool)(l:List UInt8):Except (Nat×Nat) Lf:=
 match ZC (Zcd l [] fb det) l with
 | .inl ps=> .ok ⟨Zc ps,Zcd l [] fb det⟩
 | .inr n=> .error (2,n)
theorem Bx.five {w:World} {g:Nat} {a b c d e:Value} {T:TypeId} (h:Bx w g #[a,b,c,d,e] T):w.cell? ⟨g,0,none⟩=some a∧w.cell? ⟨g,1,none⟩=some b∧w.cell? ⟨g,2,none⟩=some c∧w.cell? ⟨g,3,none⟩=some d∧w.cell? ⟨g,4,none⟩=some e:=
 ⟨h.cell 0,h.cell 1,h.cell 2,h.cell 3,h.cell 4⟩
theorem Zqc (s:InS):(s.small 4).1<4294967296:=by
 unfold InS.small;simp only [Nat.min_eq_left (show 4≤8 by decide)];have h1:=Zge s 4;have h2:=Zii (s.take 4).1;exact Nat.lt_of_lt_of_le h2 (Nat.pow_le_pow_right (by decide) h1)
theorem Zjy (K:Nat)(s:InS)(kd bud:Int)(fb:Nat)(det:Bool)(w:World)(h:InAt w K s):
 Calls Tryz.prog 106 #[.agg (Z5 K kd bud fb det)] w (Zr K w (.tuple #[.string (B (ZQ s).1),.int .i64 ((ZQ s).2.1:Nat)]) (ZQ s).2.2):=by
 have hlt:=h.lt;have X0:=Lib.hid (Bx.new w (Z5 K kd bud fb det) 184);have H0:=Lib.hid (h.alloc (.cells (Z5 K kd bud fb det) 184));have L0:=Lib.hid ((Below.refl w.heap.size w).alloc (Nat.le_refl _) (.cells (Z5 K kd bud fb det) 184));have hsm:=fun w h=>Zjk K s 4 (by decide) w h;have hn:=Zqc s;unfold Zr at hsm;obtain⟨n,s1,e1⟩:∃n s1,s.small 4=(n,s1):=⟨_,_,rfl⟩
 rw [e1] at hsm hn;simp only at hsm hn;have hat:=fun w h=>ZeU K s1 w h;have htk:=fun w h=>Zec K s1 n (by omega) (by omega) w h;unfold Zr at htk;rw [Int.toNat_natCast] at htk;have hz:ZQ s=((s1.take n).1,s1.at_,(s1.take n).2):=by unfold ZQ;simp only [e1]
 rw [hz];simp only;clear hz e1;generalize B (s1.take n).1=T at*;generalize (s1.take n).2=s2 at*;generalize hP:Zr K w (.tuple #[.string T,.int .i64 (s1.at_:Nat)]) s2=P at*;have hP2:∀w',InAt w' K s2→But K w.heap.size w w'→P (.returned (.tuple #[.string T,.int .i64 (s1.at_:Nat)])) w':=fun w' h1 h2=>by rw [←hP];exact⟨rfl,h1,h2⟩
 have HP:=Lib.hid hP2;clear hP hP2 h;have x0:=X0.out.cell 0;unfold Z5 at*;go_enter Tryz.func106,Tryz.ntmps106
 go_wp2_with (first
  |(go_at_call 108;refine(hsm _ H0.out).mono ?_;rintro e w1 ⟨rfl,h1,hb1⟩;have X1:=Lib.hid (X0.out.but hb1 (by omega));have H1:=Lib.hid h1;have L1:=Lib.hid ((But.of L0.out).trans (hb1.mono L0.out.size));have x1:=X1.out.cell 0;clear h1)
  |(go_at_call 54;refine(hat _ H1.out).mono ?_;rintro e w2 ⟨rfl,rfl⟩)
  |(go_at_call 56;refine(htk _ H1.out).mono ?_;rintro e w3 ⟨rfl,h3,hb3⟩;have H3:=Lib.hid h3;have L3:=Lib.hid (L1.out.trans (hb3.mono L1.out.size));clear h3 hb3))
 exact HP.out _ H3.out L3.out
def Zd5 (K:Nat)(s:InS)(k:Nat)(r:Except (Nat×Nat) Lf)(w:World)(e:Ending)(w':World):Prop:=
 match r with
 | .ok l=>Zr K w (.agg #[.string (B l.text),.int .i64 (l.set:Nat)]) s e w'
 | .error x=>Zr K w (.agg #[.string ⟨#[]⟩,.int .i64 0]) (s.fail x.1 (k+x.2)) e w'
theorem Zi5 (K:Nat)(s:InS)(kd bud:Int)(fb:Nat)(det:Bool)(l:List UInt8)(hl:l.length≤100000)(k:Nat)(hk:k≤2000000000)(w:World)(hG:Grd w)(h:InAt w K s)(hfb:fb≤9):
 Calls Tryz.prog 107 #[.agg (Z5 K kd bud fb det),.string (B l),.int .i64 k] w (Zd5 K s k (lfC fb det l) w):=by
 have hlt:=h.lt;have X0:Hid (Bx ((w.alloc (.cells (Z5 K kd bud fb det) 184)).alloc (.cells #[.string ⟨#[]⟩,.int .i64 0] 25)) w.heap.size (Z5 K kd bud fb det) 184):=Lib.hid ((Bx.new w _ _).alloc _);have R0:Hid (Bx ((w.alloc (.cells (Z5 K kd bud fb det) 184)).alloc (.cells #[.string ⟨#[]⟩,.int .i64 0] 25)) (w.heap.size+1) #[.string ⟨#[]⟩,.int .i64 0] 25):=Lib.hid (by have:=Bx.new (w.alloc (.cells (Z5 K kd bud fb det) 184)) #[.string ⟨#[]⟩,.int .i64 0] 25;rwa [show(w.alloc (.cells (Z5 K kd bud fb det) 184)).heap.size=w.heap.size+1 by simp] at this);have H0:=Lib.hid ((h.alloc (.cells (Z5 K kd bud fb det) 184)).alloc (.cells #[.string ⟨#[]⟩,.int .i64 0] 25));have L0:Hid (Below w.heap.size w ((w.alloc (.cells (Z5 K kd bud fb det) 184)).alloc (.cells #[.string ⟨#[]⟩,.int .i64 0] 25))):=Lib.hid (((Below.refl _ w).alloc (Nat.le_refl _) _).alloc (by simp) _);have G0:=Lib.hid ((hG.alloc (.cells (Z5 K kd bud fb det) 184)).alloc (.cells #[.string ⟨#[]⟩,.int .i64 0] 25));have hre:=fun w hG=>ZoO l [] hl (by simp) kd bud fb det w hG;have hst:=Zsu l [] fb det hfb;unfold lfC;rw [show B []=⟨#[]⟩ from rfl] at hre;generalize Zcd l [] fb det=st at*;have hde:=fun w hG=>Zd6 st hst l hl w hG;have hnn:∀n,ZC st l= .inr n→n≤1000000:=fun n hn=>by have:=Zql l n hn;omega
 generalize ZC st l=r at*;unfold ZaV at hde;obtain⟨x0,x1,x2,x3,x4⟩:=X0.out.five;cases r with
 |inl ps=>
  unfold D2V at hde;simp only at hde⊢;have hbd:=fun w=>ZaG 0 0 rfl w;generalize hP:Zd5 K s k (.ok ⟨Zc ps,st⟩) w=P at*;have hP2:∀w',InAt w' K s→But K w.heap.size w w'→P (.returned (.agg #[.string (B (Zc ps)),.int .i64 (st:Nat)])) w':=fun w' h1 h2=>by rw [←hP];exact⟨rfl,h1,h2⟩
  have HP:=Lib.hid hP2;clear hP hP2;generalize B (Zc ps)=T at*;unfold Z5 at*;go_enter Tryz.func107,Tryz.ntmps107
  go_wp2_with (first
   |(go_at_call 60;refine(hre _ G0.out).mono ?_;rintro e w1 ⟨rfl,hb1⟩;have X1:=Lib.hid (X0.out.below hb1);have R1:=Lib.hid (R0.out.below hb1);have H1:=Lib.hid (H0.out.below hb1);have L1:=Lib.hid (L0.out.trans (hb1.mono L0.out.size));have G1:=Lib.hid (G0.out.below hb1);clear hb1)
   |(go_at_call 62;refine(hde _ G1.out).mono ?_;rintro e w2 ⟨rfl,hb2⟩;have X2:=Lib.hid (X1.out.below hb2);have R2:=Lib.hid (R1.out.below hb2);have H2:=Lib.hid (H1.out.below hb2);have L2:=Lib.hid (L1.out.trans (hb2.mono L1.out.size));clear hb2;have Y2:=Lib.hid (Bx.new w2 #[.int .i64 0,.int .i64 0] 39);have y0:=Y2.out.cell 0;have y1:=Y2.out.cell 1)
   |(go_at_call 8;refine(hbd _).mono ?_;rintro e w3 ⟨rfl,hb3⟩;have X3:=Lib.hid ((X2.out.alloc _).below hb3);have R3:=Lib.hid ((R2.out.alloc _).below hb3);have H3:=Lib.hid ((H2.out.alloc _).below hb3);have Y3:=Lib.hid (Y2.out.below hb3);have L3:=Lib.hid ((L2.out.alloc L2.out.size _).trans (hb3.mono (by have:=L2.out.size;simp;omega)));clear hb3;have x30:=X3.out.cell 0;have y30:=Y3.out.cell 0;have y31:=Y3.out.cell 1;have r30:=R3.out.cell 0;have r31:=R3.out.cell 1;have q30:=R3.out.free 0;have q31:=R3.out.free 1))
  have z1:=Zcn R3.out (.string T) (.int .i64 (st:Nat));refine bodyPost_ret (results_cell_row rfl _ _ (w.heap.size+1) _ _ _ _ rfl z1 Tryz.underlying25 rfl (by kernel_rfl)) rfl ?_;exact HP.out _ ((H3.out.set (by omega) 0 _).set (by omega) 1 _) (.of ((L3.out.setCell (p:=⟨w.heap.size+1,0,none⟩) (Nat.le_succ _) _).setCell (p:=⟨w.heap.size+1,1,none⟩) (Nat.le_succ _) _))
 |inr n=>
  unfold D2V at hde;simp only at hde⊢;have hbd:=fun w=>ZcB 2 n (by decide) w;have hn9:n≤1000000:=hnn n rfl;have hfa:=fun w h=>Zgy K s 2 ((k:Int)+n) (by decide) (by omega) w h;rw [show((2:Int).toNat)=2 from rfl,show((k:Int)+n).toNat=k+n by omega] at hfa;unfold Zr at hfa;generalize hP:Zd5 K s k (.error (2,n)) w=P at*;have hP2:∀w',InAt w' K (s.fail 2 (k+n))→But K w.heap.size w w'→P (.returned (.agg #[.string ⟨#[]⟩,.int .i64 0])) w':=fun w' h1 h2=>by rw [←hP];exact⟨rfl,h1,h2⟩
  have HP:=Lib.hid hP2;clear hP hP2;unfold Z5 at*;go_enter Tryz.func107,Tryz.ntmps107
  go_wp2_with (first
   |(go_at_call 60;refine(hre _ G0.out).mono ?_;rintro e w1 ⟨rfl,hb1⟩;have X1:=Lib.hid (X0.out.below hb1);have R1:=Lib.hid (R0.out.below hb1);have H1:=Lib.hid (H0.out.below hb1);have L1:=Lib.hid (L0.out.trans (hb1.mono L0.out.size));have G1:=Lib.hid (G0.out.below hb1);clear hb1)
   |(go_at_call 62;refine(hde _ G1.out).mono ?_;rintro e w2 ⟨rfl,hb2⟩;have X2:=Lib.hid (X1.out.below hb2);have R2:=Lib.hid (R1.out.below hb2);have H2:=Lib.hid (H1.out.below hb2);have L2:=Lib.hid (L1.out.trans (hb2.mono L1.out.size));clear hb2;have Y2:=Lib.hid (Bx.new w2 #[.int .i64 2,.int .i64 n] 39);have y0:=Y2.out.cell 0;have y1:=Y2.out.cell 1)
   |(go_at_call 8;refine(hbd _).mono ?_;rintro e w3 ⟨rfl,hb3⟩;have X3:=Lib.hid ((X2.out.alloc _).below hb3);have R3:=Lib.hid ((R2.out.alloc _).below hb3);have H3:=Lib.hid ((H2.out.alloc _).below hb3);have Y3:=Lib.hid (Y2.out.below hb3);have L3:=Lib.hid ((L2.out.alloc L2.out.size _).trans (hb3.mono (by have:=L2.out.size;simp;omega)));clear hb3;have x30:=X3.out.cell 0;have y30:=Y3.out.cell 0;have y31:=Y3.out.cell 1;have r30:=R3.out.cell 0;have r31:=R3.out.cell 1;have q30:=R3.out.free 0;have q31:=R3.out.free 1)
   |(go_at_call 99;refine(hfa _ H3.out).mono ?_;rintro e w4 ⟨rfl,h4,hb4⟩;have R4:=Lib.hid (R3.out.but hb4 (by omega));have H4:=Lib.hid h4;have L4:=Lib.hid ((But.of L3.out).trans (hb4.mono L3.out.size));clear h4 hb4;have r40:=R4.out.cell 0;have r41:=R4.out.cell 1;have q40:=R4.out.free 0;have q41:=R4.out.free 1))
  have z1:=Zcn R4.out (.string ⟨#[]⟩) (.int .i64 0);refine bodyPost_ret (results_cell_row rfl _ _ (w.heap.size+1) _ _ _ _ rfl z1 Tryz.underlying25 rfl (by kernel_rfl)) rfl ?_;exact HP.out _ ((H4.out.set (by omega) 0 _).set (by omega) 1 _) ((L4.out.setCell (p:=⟨w.heap.size+1,0,none⟩) (.inl (Nat.le_succ _)) _).setCell (p:=⟨w.heap.size+1,1,none⟩) (.inl (Nat.le_succ _)) _)
structure Nx where
 name:List UInt8
 text:List UInt8
 set:Int
structure Mx where
 kind:UInt8
 body:List UInt8
def nxV (n:Nx):List Value:=[.string (B n.name),.string (B n.text),.int .i64 n.set]
theorem ZdO (n:Nx):(nxV n).length=3:=rfl
def mxV (m:Mx):List Value:=[.int .u8 m.kind.toNat,.string (B m.body)]
theorem Zet (m:Mx):(mxV m).length=2:=rfl
def Zeu (t:List UInt8):Bool:= !(t==[])&&Zs t==t.length
def ZcM (n:Nx):Bool:=Zeu n.name&&Zcf n.text
def ckC (v:List UInt8)(ns:List Nx):Bool:=Zcf v&&(ns.all ZcM&&decide (ns.length≤4096))
def Nx.nt (n:Nx):Nt:=⟨n.name,⟨n.text,7⟩⟩
def Nx.up (n:Nx):Nx:=⟨n.name,n.text,7⟩
def Mx.mt (m:Mx):Mt:=⟨m.kind.toNat,m.body⟩
def bkX (v:List UInt8)(ns:List Nx):Bk:=⟨⟨v,7⟩,ns.map Nx.nt⟩
def ckM (at_:Int)(okb:Bool):Nat→Bool→List Mx→Option Bool
 |_,noted,[]=>some noted
 |n,noted,m::r=>
  if 4096≤n then none else
  if Zam n m.kind.toNat m.body.length noted=false then none else
  if m.kind≠4 then ckM at_ okb (n+1) noted r else
  if m.body≠[]∨at_≠n then none else
  if okb=false then none else ckM at_ okb (n+1) true r
def ZY (ms:List Mx)(v:List UInt8)(ns:List Nx)(at_:Int):Bool:=
 !ms.isEmpty&&match ckM at_ (ckC v ns) 0 false ms with
 |none=>false
 |some noted=>noted|| !(decide (0≤at_)||(decide (0<ns.length)|| !v.isEmpty))
theorem Zlq {t:List UInt8} (h:Zcf t=true)(fb:Nat)(det:Bool):lfC fb det t= .ok ⟨t,7⟩:=by
 have hr:Zcd t [] fb det=7:=by unfold Zcd;rw [if_pos h]
 unfold lfC;rw [hr];have hd:ZC 7 t=Zce t:=by unfold ZC;rw [if_neg (by omega),if_neg (by omega),if_pos rfl]
 rw [hd];unfold Zcf at h;rcases ZdY t with⟨ps,hg,e⟩|⟨n,_,e⟩
 · rw [e];have htx:Zc ps=t:=hg.1.symm.trans rfl;simp only [htx]
 · rw [e] at h;cases h
theorem ZjG:∀t:List UInt8,Zs t=t.length→t.all ZbS=true
 |[],_=>rfl
 |x::r,h=>by
  unfold Zs at h;split at h
  · next hx=>
    simp only [List.length_cons,Nat.add_right_cancel_iff] at h;simp [hx,ZjG r h]
  · simp at h
theorem nt_ok {n:Nx} (h:ZcM n=true)(hs:n.name.length+1+n.text.length<4294967296)(fb:Nat)(det:Bool):NtOk (lfC fb det) n.nt:=by
 unfold ZcM Zeu at h;simp only [Bool.and_eq_true,Bool.not_eq_true',beq_eq_false_iff_ne,beq_iff_eq] at h;exact⟨h.1.1,ZjG _ h.1.2,Zlq h.2 fb det,hs⟩
theorem bk_ok {v:List UInt8} {ns:List Nx} (h:ckC v ns=true)(hv:v.length≤100000)(hn:∀n∈ns,n.name.length≤100000∧n.text.length≤100000)(fb:Nat)(det:Bool):BkOk (lfC fb det) (bkX v ns):=by
 unfold ckC at h;simp only [Bool.and_eq_true,decide_eq_true_eq,List.all_eq_true] at h;refine⟨Zlq h.1 fb det,by show v.length<_;omega,fun n hm=> ?_,by show(ns.map Nx.nt).length≤4096;rw [List.length_map];exact h.2.2⟩;obtain⟨x,hx,rfl⟩:=List.mem_map.1 hm;exact nt_ok (h.2.1 x hx) (by have:=hn x hx;omega) fb det
theorem ZfP (k:Bk)(at_:Int)(okb:Bool)(hk:(ZT false k).length<16777216):∀(ms:List Mx) (n:Nat) (nt b:Bool),ckM at_ okb n nt ms=some b→(∀m∈ms,m.body.length<16777216)→ZcD k n nt (ms.map Mx.mt)
 |[],_,_,_,_,_=>trivial
 |m::r,n,nt,b,h,hl=>by
  unfold ckM at h;split at h
  · cases h
  · next h1=>
    split at h
    · cases h
    · next h2=>
      have h2':Zam n m.kind.toNat m.body.length nt=true:=by simpa using h2
      split at h
      · next h3=>
        have h4:m.kind.toNat≠4:=fun e=>h3 (UInt8.toNat_inj.1 (by show m.kind.toNat=4;exact e));refine⟨h2',by omega,fun e=>absurd e h4,?_,?_⟩
        · show(Zn k m.mt).length<_
          unfold Zn;rw [if_neg (show¬m.mt.kind=4 from h4)];exact hl m (by simp)
        · have:=ZfP k at_ okb hk r (n+1) nt b h (fun m hm=>hl m (by simp [hm]));have e:(nt||m.mt.kind==4)=nt:=by rw [show(m.mt.kind==4)=false from beq_eq_false_iff_ne.2 h4,Bool.or_false]
          show ZcD k (n+1) (nt||m.mt.kind==4) (r.map Mx.mt)
          rw [e];exact this
      · next h3=>
        have h4:m.kind=4:=by simpa using h3
        have h4':m.mt.kind=4:=by show m.kind.toNat=4;rw [h4];rfl
        split at h
        · cases h
        · next h5=>
          split at h
          · cases h
          · have hb:m.body=[]:=Classical.byContradiction fun e=>h5 (.inl e);refine⟨h2',by omega,fun _=>hb,?_,?_⟩
            · show(Zn k m.mt).length<_
              unfold Zn;rw [if_pos h4'];exact hk
            · have:=ZfP k at_ okb hk r (n+1) true b h (fun m hm=>hl m (by simp [hm]));have e:(nt||m.mt.kind==4)=true:=by rw [show(m.mt.kind==4)=true from beq_iff_eq.2 h4',Bool.or_true]
              show ZcD k (n+1) (nt||m.mt.kind==4) (r.map Mx.mt)
              rw [e];exact this
theorem ZhQ (k:Bk)(at_:Int)(okb:Bool):∀(ms:List Mx) (n:Nat) (nt b:Bool) (q:Option (Nat×Bk)),ckM at_ okb n nt ms=some b→q=(if nt then some (at_.toNat,k) else none)→(nt=true→0≤at_)→
 Zb6 k n q (ms.map Mx.mt)=(if b then some (at_.toNat,k) else none)∧(b=true→0≤at_)∧(b=true→nt=false→okb=true)
 |[],n,nt,b,q,h,hq,h0=>by
  unfold ckM at h;injection h with h;subst h
  exact⟨hq,h0,fun h1 h2=>by rw [h1] at h2;cases h2⟩
 |m::r,n,nt,b,q,h,hq,h0=>by
  unfold ckM at h;split at h
  · cases h
  · split at h
    · cases h
    · split at h
      · next h3=>
        have h4:m.kind.toNat≠4:=fun e=>h3 (UInt8.toNat_inj.1 (by show m.kind.toNat=4;exact e));have:=ZhQ k at_ okb r (n+1) nt b q h hq h0;show Zb6 k (n+1) (if m.mt.kind=4 then some (n,k) else q) (r.map Mx.mt)=_∧_
        rw [if_neg (show¬m.mt.kind=4 from h4)];exact this
      · next h3=>
        have h4:m.kind=4:=by simpa using h3
        have h4':m.mt.kind=4:=by show m.kind.toNat=4;rw [h4];rfl
        split at h
        · cases h
        · next h5=>
          split at h
          · cases h
          · next h6=>
            have ha:at_=n:=Classical.byContradiction fun e=>h5 (.inr e);have:=ZhQ k at_ okb r (n+1) true b (some (n,k)) h (by rw [ha];simp) (fun _=>by omega);show Zb6 k (n+1) (if m.mt.kind=4 then some (n,k) else q) (r.map Mx.mt)=_∧_
            rw [if_pos h4'];exact⟨this.1,this.2.1,fun _ _=>by simpa using h6⟩
theorem ckC_up (v:List UInt8)(ns:List Nx):ckC v (ns.map Nx.up)=ckC v ns:=by
 unfold ckC;rw [List.length_map,List.all_map];rfl
def ZN (ms:List Mx)(v:List UInt8)(ns:List Nx)(sound:List UInt8):List UInt8:=ZcS (bkX v ns) (ms.map Mx.mt) sound
theorem Zso (ms:List Mx)(v:List UInt8)(ns:List Nx)(sound:List UInt8):ZN ms v (ns.map Nx.up) sound=ZN ms v ns sound:=by
 unfold ZN bkX;rw [List.map_map];rfl
structure LightX (ms:List Mx)(v:List UInt8)(ns:List Nx)(sound:List UInt8):Prop where
 msl:ms.length≤30
 body:∀m∈ms,m.body.length≤500
 snd:sound.length≤500
 nsl:ns.length≤30
 note:∀n∈ns,n.name.length≤50∧n.text.length≤150
 vend:v.length≤150
theorem Zm2 (n:Nat):(ZA n 4).length=4:=rfl
theorem ZmY (b:List UInt8):(sizedB b).length=4+b.length:=by unfold sizedB;rw [List.length_append,Zm2]
theorem ZrH (n:Nx):(Zbv n.nt).length=5+n.name.length+n.text.length:=by
 unfold Zbv;rw [ZmY];show 4+(n.name++61::n.text).length=_
 simp only [List.length_append,List.length_cons];omega
theorem ZlJ:∀ns:List Nx,(∀n∈ns,n.name.length≤50∧n.text.length≤150)→(((ns.map Nx.nt).map Zbv).flatten).length≤ns.length*205
 |[],_=>by simp
 |n::r,h=>by
  have ih:=ZlJ r (fun m hm=>h m (by simp [hm]));have h1:=ZrH n;have h2:=h n (by simp);simp only [List.map_cons,List.flatten_cons,List.length_append,List.length_cons];omega
theorem Zf0 {v:List UInt8} {ns:List Nx} (hn:ns.length≤30)(hv:v.length≤150)(h:∀n∈ns,n.name.length≤50∧n.text.length≤150):(ZT false (bkX v ns)).length≤7000:=by
 have h1:=ZlJ ns h;have h2:(sizedB (bkX v ns).vendor.text).length=4+v.length:=ZmY v;have h3:(ZT false (bkX v ns))=sizedB (bkX v ns).vendor.text++(ZA (bkX v ns).notes.length 4++(((ns.map Nx.nt).map Zbv).flatten++[])):=rfl;rw [h3];simp only [List.length_append,Zm2,h2,List.length_nil];omega
theorem Zmq (k:Bk)(hk:(ZT false k).length≤7000):∀ms:List Mx,(∀m∈ms,m.body.length≤500)→(Zag k (ms.map Mx.mt)).length≤ms.length*7004
 |[],_=>by simp [Zag]
 |m::r,h=>by
  have ih:=Zmq k hk r (fun m hm=>h m (by simp [hm]));have h2:=h m (by simp);have h3:(Zn k m.mt).length≤7000:=by
   unfold Zn;split
   · exact hk
   · show m.body.length≤_;omega
  simp only [List.map_cons,Zag,List.length_cons,List.length_append,Zfj];omega
theorem Zh1 {ms:List Mx} {v:List UInt8} {ns:List Nx} {sound:List UInt8} (h:LightX ms v ns sound):(ZN ms v ns sound).length≤300000:=by
 have h1:=Zf0 h.nsl h.vend h.note;have h2:=Zmq _ h1 ms h.body;have h3:=h.msl;have h4:=h.snd;unfold ZN ZcS;simp only [List.length_append,Zae,List.length_cons,List.length_nil];omega
theorem Zmr (k:Bk)(hk:(ZT false k).length≤7000):∀(ms:List Mx) (n:Nat) (noted:Bool),ZcD k n noted (ms.map Mx.mt)→(∀m∈ms,m.body.length≤500)→(Zag k (ms.map Mx.mt)).length≤ms.length*504+if noted then 0 else 7000
 |[],_,_,_,_=>by simp [Zag]
 |m::r,n,noted,h,hb=>by
  obtain⟨h1,_,_,_,h5⟩:=h;have ih:=Zmr k hk r (n+1) _ h5 (fun q hq=>hb q (by simp [hq]));have h2:=hb m (by simp);simp only [List.map_cons,Zag,List.length_cons,List.length_append,Zfj];by_cases h4:m.mt.kind=4
  · have hn:noted=false:=by
     unfold Zam at h1;rw [h4] at h1;split at h1
     · simp at h1
     · cases noted
       · rfl
       · simp at h1
    subst hn;have hbd:Zn k m.mt=ZT false k:=by unfold Zn;rw [if_pos h4]
    rw [show(false||m.mt.kind==4)=true by rw [h4];rfl,if_pos rfl] at ih;rw [hbd,if_neg (by decide)];omega
  · have hbd:Zn k m.mt=m.body:=by unfold Zn;rw [if_neg h4];rfl
    rw [show(noted||m.mt.kind==4)=noted by rw [show(m.mt.kind==4)=false from beq_eq_false_iff_ne.2 h4,Bool.or_false]] at ih;rw [hbd];omega
theorem Zsn {ms:List Mx} {v:List UInt8} {ns:List Nx} {at_:Int} {sound:List UInt8} (h:ZY ms v ns at_=true)(hl:LightX ms v ns sound):(ZN ms v ns sound).length≤100000:=by
 unfold ZY at h;simp only [Bool.and_eq_true] at h;obtain⟨_,h⟩:=h;split at h
 · cases h
 · next b hb=>
   have hk:=Zf0 hl.nsl hl.vend hl.note;have h1:=ZfP (bkX v ns) at_ (ckC v ns) (by omega) ms 0 false b hb (fun m hm=>by have:=hl.body m hm;omega);have h2:=Zmr _ hk ms 0 false h1 hl.body;have h3:=hl.msl;have h4:=hl.snd;rw [if_neg (by decide)] at h2;unfold ZN ZcS;simp only [List.length_append,Zae,List.length_cons,List.length_nil];omega
theorem ZqR {ms:List Mx} {v:List UInt8} {ns:List Nx} {at_:Int} {sound:List UInt8} (h:ZY ms v ns at_=true)(hl:LightX ms v ns sound)(fb:Nat)(det:Bool):
 ∃b:Bool,ZeA (lfC fb det) (ZN ms v ns sound)= .ok ⟨ms.map Mx.mt,if b then some (at_.toNat,bkX v ns) else none,sound⟩∧
  (b=true→0≤at_∧ckC v ns=true)∧(b=false→at_<0∧ns=[]∧v=[]):=by
 unfold ZY at h;simp only [Bool.and_eq_true,Bool.not_eq_true'] at h;obtain⟨hne,h⟩:=h;split at h
 · cases h
 · next b hb=>
   have hk:=Zf0 hl.nsl hl.vend hl.note;have h1:=ZfP (bkX v ns) at_ (ckC v ns) (by omega) ms 0 false b hb (fun m hm=>by have:=hl.body m hm;omega);have h2:=ZhQ (bkX v ns) at_ (ckC v ns) ms 0 false b none hb rfl (fun e=>by cases e);have hbf:b=false→at_<0∧ns=[]∧v=[]:=by
    intro e;subst e;simp only [Bool.false_or,Bool.not_eq_true',Bool.or_eq_false_iff,decide_eq_false_iff_not,Bool.not_eq_false',List.isEmpty_iff] at h;exact⟨by omega,List.length_eq_zero_iff.1 (by omega),h.2.2⟩
   have hok:BkOk (lfC fb det) (bkX v ns):=by
    cases b with
    |true=>exact bk_ok (h2.2.2 rfl rfl) (by have:=hl.vend;omega) (fun n hn=>by have:=hl.note n hn;omega) fb det
    |false=>
     obtain⟨_,e1,e2⟩:=hbf rfl;subst e1 e2;exact bk_ok (by rfl) (by simp) (by simp) fb det
   refine⟨b,?_,fun e=>⟨h2.2.1 e,h2.2.2 e rfl⟩,hbf⟩;have hm:ms.map Mx.mt≠[]:=by
    intro e;rw [List.map_eq_nil_iff] at e;subst e;cases hne
   have:=ZqS (lfC fb det) (bkX v ns) hok (ms.map Mx.mt) hm h1 sound;rw [h2.1] at this;exact this
theorem Zp0 {ms:List Mx} {v:List UInt8} {ns:List Nx} {at_:Int} (h:ZY ms v ns at_=true):ZY ms v (ns.map Nx.up) (max at_ (-1))=true:=by
 have key:∀(okb:Bool) (ms:List Mx) (n:Nat) (nt:Bool),ckM (max at_ (-1)) okb n nt ms=ckM at_ okb n nt ms:=by
  intro okb ms;induction ms with
  |nil=>intro n nt;rfl
  |cons m r ih=>
   intro n nt;unfold ckM;rw [ih,ih];have e:(max at_ (-1)≠(n:Int))=(at_≠(n:Int)):=by
    apply propext
    rw [Int.max_def];split<;>constructor<;>intro h<;>omega
   simp only [e]
 unfold ZY at h⊢;rw [ckC_up,key,List.length_map];have e:decide (0≤max at_ (-1))=decide (0≤at_):=by
  rw [Bool.eq_iff_iff];simp only [decide_eq_true_eq];rw [Int.max_def];split<;>omega
 rw [e];exact h
section
variable {ops:Array Oper} {rest:List Oper} {o:Oper} {a:Act} {Q:Exit→Act→World→Prop}
end
section
variable {w wx wy:World} {F K:Nat} {BX:Array Value} {s s':InS}
end
theorem fail_t (s:InS)(e a:Nat):(s.fail e a).t=s.t:=by unfold InS.fail;split<;>rfl
theorem Zs2 (s:InS):s.short.t=s.t:=fail_t _ _ _
theorem ZeL (s:InS)(k:Nat):(s.take k).2.t=s.t:=by
 unfold InS.take;split
 · rfl
 · split
   · exact Zs2 s
   · rfl
end Go.Proofs.YtlglfmbccihopaaGreatDoor
