/- Contracts: the document's Nth, Sign, Byte, Decode, Encode of chapter 5; conditions: the charset is one of the four, small lengths. -/
import Derived.Test.YtpnjandlpbjddaaDoorKE
import Derived.Test.YtpnjandlpbjddaaDoorP5
set_option maxRecDepth 100000
set_option maxHeartbeats 1000000
namespace Go.Proofs.YtpnjandlpbjddaaDoor
open Go Go.RowKit

def NtRel (ps : List Int) (n : Nat) (w0 : World) (v1 v5 : Value) (wr : World) : Prop := ∃ k i : Nat, Run ps k i ∧ k ≤ n ∧ v1 = .int .i64 ((n - k : Nat) : Int) ∧ v5 = .int .i64 i ∧ Below w0.heap.size w0 wr
theorem RNth_any (s : ByteArray) (ps : List Int) (hg : Good s ps) (n : Nat) (hn : n < ps.length) (hs : s.size ≤ 100000) (w : World) :
    Calls Tryd.prog 24 #[.string s, .int .i64 n] w fun e w' => e = .returned (.int .i32 (ps.getD n 0)) ∧ Below w.heap.size w w' := by
  have hlen := hg.len
  have hp4 := hg.pre
  have HP : Hid (∀ w', Below w.heap.size w w' → (fun e w' => e = Ending.returned (.int .i32 (ps.getD n 0)) ∧ Below w.heap.size w w') (.returned (.int .i32 (ps.getD n 0))) w') := Lib.hid fun w' hb => ⟨rfl, hb⟩
  generalize (fun (e : Ending) (w' : World) => e = Ending.returned (.int .i32 (ps.getD n 0)) ∧ Below w.heap.size w w') = P at *
  go_enter Tryd.func24, Tryd.ntmps24
  go_wp2_with fail
  go_loopw [1, 5] (fun v1 v5 wr => NtRel ps n w v1 v5 wr) (fun v1 _ _ => (intOf v1).toNat)
  case atStart => exact ⟨0, 0, Run.zero _, by omega, rfl, rfl, Below.refl _ _⟩
  case round =>
    obtain ⟨k, i, hrun, hk, rfl, rfl, hb⟩ := hrel
    obtain ⟨p, m, hst, hrun', hn1, hn4, hin, hp0, hp1, _⟩ := hrun.step hp4 (by omega)
    have hat := fun W => RAt_step hst (by omega) (by omega) W
    have hpk : p = ps.getD k 0 := hst.2.2.1
    have Hpk := Lib.hid hpk
    clear hpk hst
    have hm0 : ((m : Int) == 0) = false := by rw [beq_eq_false_iff_ne]; omega
    by_cases hkn : k = n
    · subst hkn
      have h0 : (((k - k : Nat) : Int) == 0) = true := by simp
      rw [Nat.sub_self]
      go_wp2_with (go_at_call 30; refine (hat _).mono ?_; rintro e w1 ⟨rfl, hb1⟩)
      show P (.returned (.int .i32 p)) _
      rw [Hpk.out]
      exact HP.out _ (hb.trans (hb1.mono hb.size))
    · have h0 : (((n - k : Nat) : Int) == 0) = false := by rw [beq_eq_false_iff_ne]; omega
      go_wp2_with (go_at_call 30; refine (hat _).mono ?_; rintro e w1 ⟨rfl, hb1⟩)
      refine ⟨⟨k + 1, i + m, hrun', by omega, by congr 1; omega, by simp, hb.trans (hb1.mono hb.size)⟩, by simp [intOf]; omega⟩
def sgnX (c n : Nat) (fr ff fo : Nat → Int) : Int :=
  if c = 0 ∨ n < 128 then n
  else if c = 3 then
    if n < 176 then (1040 + n - 128 : Int) else if n < 224 then ff (n - 176) else if n < 240 then (1088 + n - 224 : Int) else fo (n - 240)
  else if c = 2 then ((ukrL.find? fun x => x.1 == n).map (·.2)).getD (fr (n - 128))
  else fr (n - 128)
theorem sgnX_eq (c n : Nat) : sgnL c n = sgnX c n (fun k => rusL.getD k 0) (fun k => frmL.getD k 0) (fun k => othL.getD k 0) := rfl
theorem rus_good : Good (lB (textL rusL)) rusL := good_text fun p hp => List.all_eq_true.1 rus_all p hp
theorem frm_good : Good (lB (textL frmL)) frmL := good_text fun p hp => List.all_eq_true.1 frm_all p hp
theorem oth_good : Good (lB (textL othL)) othL := good_text fun p hp => List.all_eq_true.1 oth_all p hp
theorem RSign_any (c : Nat) (x : UInt8) (w : World) :
    Calls Tryd.prog 9 #[.int .i64 c, .int .u8 x.toNat] w fun e w' => e = .returned (.int .i32 (sgnL c x.toNat)) ∧ Below w.heap.size w w' := by
  have hx := x.toNat_lt
  generalize x.toNat = n at *
  have hr : ∀ k : Nat, k < 128 → ∀ W, Calls Tryd.prog 24 #[.string (lB (textL rusL)), .int .i64 k] W fun e w' => e = .returned (.int .i32 ((fun k : Nat => rusL.getD k 0) k)) ∧ Below W.heap.size W w' := fun k hk W => RNth_any _ _ rus_good k hk (by rw [rus_good.size]; decide) W
  have hf : ∀ k : Nat, k < 48 → ∀ W, Calls Tryd.prog 24 #[.string (lB (textL frmL)), .int .i64 k] W fun e w' => e = .returned (.int .i32 ((fun k : Nat => frmL.getD k 0) k)) ∧ Below W.heap.size W w' := fun k hk W => RNth_any _ _ frm_good k hk (by rw [frm_good.size]; decide) W
  have ho : ∀ k : Nat, k < 16 → ∀ W, Calls Tryd.prog 24 #[.string (lB (textL othL)), .int .i64 k] W fun e w' => e = .returned (.int .i32 ((fun k : Nat => othL.getD k 0) k)) ∧ Below W.heap.size W w' := fun k hk W => RNth_any _ _ oth_good k hk (by rw [oth_good.size]; decide) W
  have HP : Hid (∀ w' z, sgnL c n = z → Below w.heap.size w w' → (fun e w' => e = Ending.returned (.int .i32 (sgnL c n)) ∧ Below w.heap.size w w') (.returned (.int .i32 z)) w') := Lib.hid fun w' z hz hb => by rw [← hz]; exact ⟨rfl, hb⟩
  rw [sgnX_eq c n] at HP
  rw [sgnX_eq c n]
  refine calls_of_wp Tryd.func9 rfl ?_
  rw [lit5 (textL frmL)]
  rotate_left
  kernel_rfl
  rw [lit5 (textL othL)]
  rotate_left
  kernel_rfl
  rw [lit5 (textL rusL)]
  rotate_left
  kernel_rfl
  generalize lB (textL rusL) = b1 at *
  generalize lB (textL frmL) = b2 at *
  generalize lB (textL othL) = b3 at *
  generalize (fun k => rusL.getD k 0) = fr at *
  generalize (fun k => frmL.getD k 0) = ff at *
  generalize (fun k => othL.getD k 0) = fo at *
  generalize (fun (e : Ending) (w' : World) => e = Ending.returned (.int .i32 (sgnX c n fr ff fo)) ∧ Below w.heap.size w w') = P at *
  simp only [Tryd.ntmps9, List.size_toArray, List.length_cons, List.length_nil, Nat.reduceAdd, Nat.reduceSub, Array.replicate_succ, Array.replicate_zero, List.push_toArray, List.append_toArray, List.nil_append, List.cons_append]
  by_cases h0 : c = 0
  · have e0 : ((c : Int) == 0) = true := by rw [h0]; rfl
    go_wp2_with fail
    show P (.returned (.int .i32 ((n : Int)))) _
    exact HP.out _ _ (by unfold sgnX; rw [if_pos (.inl h0)]) (Below.refl _ _)
  have e0 : ((c : Int) == 0) = false := by rw [beq_eq_false_iff_ne]; omega
  by_cases h1 : n < 128
  · have h1' : (n : Int) < 128 := by omega
    go_wp2_with fail
    show P (.returned (.int .i32 ((n : Int)))) _
    exact HP.out _ _ (by unfold sgnX; rw [if_pos (.inr h1)]) (Below.refl _ _)
  have h1' : ¬ ((n : Int) < 128) := by omega
  by_cases h3 : c = 3
  · have e3 : ((c : Int) == 3) = true := by rw [h3]; rfl
    have hz : ∀ z, (if n < 176 then (1040 + n - 128 : Int) else if n < 224 then ff (n - 176) else if n < 240 then (1088 + n - 224 : Int) else fo (n - 240)) = z → sgnX c n fr ff fo = z := fun z h => by unfold sgnX; rw [if_neg (by omega), if_pos h3]; exact h
    have Hz := Lib.hid hz
    clear hz
    by_cases a1 : n < 176
    · have a1' : (n : Int) < 176 := by omega
      go_wp2_with fail
      show P (.returned (.int .i32 ((1040 + n - 128 : Int)))) _
      exact HP.out _ _ (Hz.out _ (by rw [if_pos a1])) (Below.refl _ _)
    have a1' : ¬ ((n : Int) < 176) := by omega
    by_cases a2 : n < 224
    · have a2' : (n : Int) < 224 := by omega
      have hc1 := hf (n - 176) (by omega)
      rw [show ((n - 176 : Nat) : Int) = (n : Int) - 176 by omega] at hc1
      go_wp2_with (go_at_call 24; refine (hc1 _).mono ?_; rintro e w1 ⟨rfl, hb1⟩)
      show P (.returned (.int .i32 (ff (n - 176)))) _
      exact HP.out _ _ (Hz.out _ (by rw [if_neg a1, if_pos a2])) hb1
    have a2' : ¬ ((n : Int) < 224) := by omega
    by_cases a3 : n < 240
    · have a3' : (n : Int) < 240 := by omega
      go_wp2_with fail
      show P (.returned (.int .i32 ((1088 + n - 224 : Int)))) _
      exact HP.out _ _ (Hz.out _ (by rw [if_neg a1, if_neg a2, if_pos a3])) (Below.refl _ _)
    have a3' : ¬ ((n : Int) < 240) := by omega
    have hc1 := ho (n - 240) (by omega)
    rw [show ((n - 240 : Nat) : Int) = (n : Int) - 240 by omega] at hc1
    go_wp2_with (go_at_call 24; refine (hc1 _).mono ?_; rintro e w1 ⟨rfl, hb1⟩)
    show P (.returned (.int .i32 (fo (n - 240)))) _
    exact HP.out _ _ (Hz.out _ (by rw [if_neg a1, if_neg a2, if_neg a3])) hb1
  have e3 : ((c : Int) == 3) = false := by rw [beq_eq_false_iff_ne]; omega
  have hc1 := hr (n - 128) (by omega)
  rw [show ((n - 128 : Nat) : Int) = (n : Int) - 128 by omega] at hc1
  by_cases h2 : c = 2
  · have e2 : ((c : Int) == 2) = true := by rw [h2]; rfl
    by_cases n164 : n = 164
    · have d164 : ((n : Int) == 164) = true := by rw [n164]; rfl
      have hz : sgnX c n fr ff fo = 1108 := by rw [n164, h2]; rfl
      have Hz := Lib.hid hz
      have Hn := Lib.hid n164
      clear hz n164 h2
      go_wp2_with fail
      show P (.returned (.int .i32 (1108))) _
      exact HP.out _ _ (Hz.out) (Below.refl _ _)
    have d164 : ((n : Int) == 164) = false := by rw [beq_eq_false_iff_ne]; omega
    by_cases n166 : n = 166
    · have d166 : ((n : Int) == 166) = true := by rw [n166]; rfl
      have hz : sgnX c n fr ff fo = 1110 := by rw [n166, h2]; rfl
      have Hz := Lib.hid hz
      have Hn := Lib.hid n166
      clear hz n166 h2
      go_wp2_with fail
      show P (.returned (.int .i32 (1110))) _
      exact HP.out _ _ (Hz.out) (Below.refl _ _)
    have d166 : ((n : Int) == 166) = false := by rw [beq_eq_false_iff_ne]; omega
    by_cases n167 : n = 167
    · have d167 : ((n : Int) == 167) = true := by rw [n167]; rfl
      have hz : sgnX c n fr ff fo = 1111 := by rw [n167, h2]; rfl
      have Hz := Lib.hid hz
      have Hn := Lib.hid n167
      clear hz n167 h2
      go_wp2_with fail
      show P (.returned (.int .i32 (1111))) _
      exact HP.out _ _ (Hz.out) (Below.refl _ _)
    have d167 : ((n : Int) == 167) = false := by rw [beq_eq_false_iff_ne]; omega
    by_cases n173 : n = 173
    · have d173 : ((n : Int) == 173) = true := by rw [n173]; rfl
      have hz : sgnX c n fr ff fo = 1169 := by rw [n173, h2]; rfl
      have Hz := Lib.hid hz
      have Hn := Lib.hid n173
      clear hz n173 h2
      go_wp2_with fail
      show P (.returned (.int .i32 (1169))) _
      exact HP.out _ _ (Hz.out) (Below.refl _ _)
    have d173 : ((n : Int) == 173) = false := by rw [beq_eq_false_iff_ne]; omega
    by_cases n180 : n = 180
    · have d180 : ((n : Int) == 180) = true := by rw [n180]; rfl
      have hz : sgnX c n fr ff fo = 1028 := by rw [n180, h2]; rfl
      have Hz := Lib.hid hz
      have Hn := Lib.hid n180
      clear hz n180 h2
      go_wp2_with fail
      show P (.returned (.int .i32 (1028))) _
      exact HP.out _ _ (Hz.out) (Below.refl _ _)
    have d180 : ((n : Int) == 180) = false := by rw [beq_eq_false_iff_ne]; omega
    by_cases n182 : n = 182
    · have d182 : ((n : Int) == 182) = true := by rw [n182]; rfl
      have hz : sgnX c n fr ff fo = 1030 := by rw [n182, h2]; rfl
      have Hz := Lib.hid hz
      have Hn := Lib.hid n182
      clear hz n182 h2
      go_wp2_with fail
      show P (.returned (.int .i32 (1030))) _
      exact HP.out _ _ (Hz.out) (Below.refl _ _)
    have d182 : ((n : Int) == 182) = false := by rw [beq_eq_false_iff_ne]; omega
    by_cases n183 : n = 183
    · have d183 : ((n : Int) == 183) = true := by rw [n183]; rfl
      have hz : sgnX c n fr ff fo = 1031 := by rw [n183, h2]; rfl
      have Hz := Lib.hid hz
      have Hn := Lib.hid n183
      clear hz n183 h2
      go_wp2_with fail
      show P (.returned (.int .i32 (1031))) _
      exact HP.out _ _ (Hz.out) (Below.refl _ _)
    have d183 : ((n : Int) == 183) = false := by rw [beq_eq_false_iff_ne]; omega
    by_cases n189 : n = 189
    · have d189 : ((n : Int) == 189) = true := by rw [n189]; rfl
      have hz : sgnX c n fr ff fo = 1168 := by rw [n189, h2]; rfl
      have Hz := Lib.hid hz
      have Hn := Lib.hid n189
      clear hz n189 h2
      go_wp2_with fail
      show P (.returned (.int .i32 (1168))) _
      exact HP.out _ _ (Hz.out) (Below.refl _ _)
    have d189 : ((n : Int) == 189) = false := by rw [beq_eq_false_iff_ne]; omega
    have hz : sgnX c n fr ff fo = fr (n - 128) := by
      unfold sgnX
      rw [if_neg (by omega), if_neg h3, if_pos h2, show (ukrL.find? fun x => x.1 == n) = none by
        rw [List.find?_eq_none]; intro x hx
        simp only [ukrL, List.mem_cons, List.not_mem_nil, or_false] at hx
        rcases hx with rfl | rfl | rfl | rfl | rfl | rfl | rfl | rfl <;> simp <;> omega]
      rfl
    have Hz := Lib.hid hz
    clear hz n164 n166 n167 n173 n180 n182 n183 n189
    go_wp2_with (go_at_call 24; refine (hc1 _).mono ?_; rintro e w1 ⟨rfl, hb1⟩)
    show P (.returned (.int .i32 (fr (n - 128)))) _
    exact HP.out _ _ (Hz.out) hb1
  have e2 : ((c : Int) == 2) = false := by rw [beq_eq_false_iff_ne]; omega
  go_wp2_with (go_at_call 24; refine (hc1 _).mono ?_; rintro e w1 ⟨rfl, hb1⟩)
  show P (.returned (.int .i32 (fr (n - 128)))) _
  exact HP.out _ _ (by unfold sgnX; rw [if_neg (by omega), if_neg h3, if_neg h2]) hb1
end Go.Proofs.YtpnjandlpbjddaaDoor
