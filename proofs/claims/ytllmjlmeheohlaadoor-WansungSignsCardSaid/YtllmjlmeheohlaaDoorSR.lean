/- Contract of wansung.Rank, for every number. -/
import Derived.Test.YtllmjlmeheohlaaDoorSG
import Derived.Shelf.Spec.TrailingZeros
set_option maxRecDepth 100000
set_option maxHeartbeats 1000000
namespace Go.Proofs.YtllmjlmeheohlaaDoor
open Go Go.RowKit

theorem Rank_out (p : Int) (hp : p < 44032 ∨ 55203 < p) (w : World) :
    Calls Tryd.prog 8 #[.int .i32 p] w fun e w' => e = .returned (.tuple #[.int .i64 0, .bool false, .bool false]) ∧ Below w.heap.size w w' := by
  rcases hp with h | h
  · go_enter Tryd.func8, Tryd.ntmps8
    go_wp2_with fail
    go_ret3
    exact ⟨rfl, Below.refl _ _⟩
  · have h0 : ¬ p < 44032 := by omega
    go_enter Tryd.func8, Tryd.ntmps8
    go_wp2_with fail
    go_ret3
    exact ⟨rfl, Below.refl _ _⟩
theorem pow_cast (r : Nat) : (2 : Int) ^ r = ((2 ^ r : Nat) : Int) := by simp
theorem pow_bd (r : Nat) (hr : r < 28) : 1 ≤ 2 ^ r ∧ 2 ^ r ≤ 268435456 := by
  refine ⟨Nat.two_pow_pos r, ?_⟩
  have := Nat.pow_le_pow_right (show 0 < 2 by decide) (show r ≤ 28 by omega)
  omega
theorem mask_low (x r : Nat) (hx : x < 2 ^ 28) (hr : r < 28) : bits .and .u32 (x : Int) (((2 : Int) ^ r - 1) % 4294967296) = ((x % 2 ^ r : Nat) : Int) := by
  have h := pow_bd r hr
  rw [pow_cast, show (((2 ^ r : Nat) : Int) - 1) % 4294967296 = ((2 ^ r - 1 : Nat) : Int) by omega, bits_and_u32_nat x _ (by omega) (by omega), Nat.and_two_pow_sub_one_eq_mod]
theorem mask_bit (x r : Nat) (hx : x < 2 ^ 28) (hr : r < 28) : (bits .and .u32 (x : Int) ((2 : Int) ^ r % 4294967296) != 0) = (x / 2 ^ r % 2 == 1) := by
  have h := pow_bd r hr
  rw [pow_cast, show (((2 ^ r : Nat) : Int)) % 4294967296 = ((2 ^ r : Nat) : Int) by omega, bits_and_u32_nat x _ (by omega) (by omega)]
  have hb : x / 2 ^ r % 2 = 0 ∨ x / 2 ^ r % 2 = 1 := by omega
  have ht := Nat.testBit_eq_decide_div_mod_eq (x := x) (i := r)
  rcases hb with hb | hb
  · rw [hb] at ht
    have hz : x &&& 2 ^ r = 0 := by
      apply Nat.eq_of_testBit_eq
      intro i
      rw [Nat.testBit_and, Nat.testBit_two_pow, Nat.zero_testBit]
      by_cases e : r = i
      · subst e; rw [ht]; simp
      · simp [e]
    rw [hz, hb]; rfl
  · rw [hb] at ht
    have hz : x &&& 2 ^ r ≠ 0 := by
      intro e
      have h1 : (x &&& 2 ^ r).testBit r = true := by
        rw [Nat.testBit_and, Nat.testBit_two_pow, ht]; simp
      rw [e, Nat.zero_testBit] at h1
      cases h1
    rw [hb]
    simp only [beq_self_eq_true, bne_iff_ne, ne_eq]
    omega
def RankRel (n : Nat) (w0 : World) (own g : Value) (wr : World) : Prop := ∃ k : Nat, k ≤ n / 28 ∧ g = .int .i64 k ∧ own = .int .i64 (cnt true (28 * k)) ∧ Below w0.heap.size w0 wr
theorem Rank_in (n : Nat) (hn : n < 11172) (w : World) :
    Calls Tryd.prog 8 #[.int .i32 (44032 + (n : Int))] w fun e w' => e = .returned (.tuple #[.int .i64 (cnt (isIn n) n), .bool (isIn n), .bool true]) ∧ Below w.heap.size w w' := by
  have e0 : (44032 : Int) + n - 44032 = n := by omega
  have h1 : ¬ (44032 : Int) + n < 44032 := by omega
  have h2 : ¬ (55203 : Int) < 44032 + n := by omega
  go_enter Tryd.func8, Tryd.ntmps8
  go_wp2_with fail
  go_loopw [6, 7] (fun o g wr => RankRel n w o g wr) (fun _ g _ => n / 28 - (intOf g).toNat)
  case atStart => exact ⟨0, by omega, rfl, rfl, Below.refl _ _⟩
  case round =>
    obtain ⟨k, hk, rfl, rfl, hb⟩ := hrel
    by_cases hk2 : k < n / 28
    · have hnx := Lib.hid (cnt_next k)
      have hgl := gr_lt k
      have hc := cnt_both (28 * k)
      have hgrp := fun w => Group_any k (by omega) w
      have hones := fun w => Ones_any (gr k) (by omega) w
      have ho8 : Lib.onesCount (gr k) ≤ 28 := by
        have := cnt_both (28 * (k + 1))
        rw [cnt_next k] at this
        have h3 := comp_ones (gr k) 28 hgl (by omega)
        rw [Nat.mod_eq_of_lt hgl] at h3
        exact Nat.le.intro (by rw [Nat.add_comm]; exact h3)
      generalize gr k = x at *
      generalize Lib.onesCount x = o at *
      generalize cnt true (28 * k) = c0 at *
      generalize cnt false (28 * k) = c1 at *
      go_wp2_with (first | (go_at_call 22; refine (hgrp _).mono ?_; rintro e w1 ⟨rfl, hb1⟩) | (go_at_call 21; refine (hones _).mono ?_; rintro e w2 ⟨rfl, hb2⟩))
      go_roundw
      case rel => exact ⟨k + 1, by omega, by go_num, by rw [hnx.out]; congr 1, (hb.trans (hb1.mono hb.size)).trans (hb2.mono (Nat.le_trans hb.size hb1.size))⟩
      case measure => simp [intOf]; omega
    · have hke : k = n / 28 := by omega
      subst hke
      have hgrp := fun w => Group_any (n / 28) (by omega) w
      have hml := mask_low (gr (n / 28)) (n % 28) (gr_lt _) (by omega)
      have hmb := mask_bit (gr (n / 28)) (n % 28) (gr_lt _) (by omega)
      have hlow : gr (n / 28) % 2 ^ (n % 28) < 2 ^ 28 := Nat.lt_of_le_of_lt (Nat.mod_le _ _) (gr_lt _)
      have hones := fun w => Ones_any (gr (n / 28) % 2 ^ (n % 28)) (by omega) w
      have hc0 := cnt_group (n / 28) (n % 28) (by omega)
      have hdm : 28 * (n / 28) + n % 28 = n := by omega
      rw [hdm] at hc0
      have hcb := cnt_both n
      have hin : isIn n = (gr (n / 28) / 2 ^ (n % 28) % 2 == 1) := rfl
      rw [← hin] at hmb
      generalize gr (n / 28) % 2 ^ (n % 28) = low at *
      generalize Lib.onesCount low = o at *
      generalize gr (n / 28) = x at *
      generalize hbq : isIn n = b at *
      have Hb := Lib.hid hbq
      clear hbq
      have Hc := Lib.hid hc0
      generalize cnt true (28 * (n / 28)) = c0 at *
      generalize hct : cnt true n = ct at *
      have Hct := Lib.hid hct
      clear hct
      clear hin hdm
      cases b
      · go_wp2_with (first | (go_at_call 22; refine (hgrp _).mono ?_; rintro e w1 ⟨rfl, hb1⟩) | (go_at_call 21; refine (hones _).mono ?_; rintro e w2 ⟨rfl, hb2⟩))
        go_ret3
        have hv : (n : Int) - ((c0 : Int) + o) = (cnt false n : Nat) := by have := Hc.out; omega
        refine ⟨?_, (hb.trans (hb1.mono hb.size)).trans (hb2.mono (Nat.le_trans hb.size hb1.size))⟩
        show Ending.returned (.tuple #[.int .i64 ((n : Int) - ((c0 : Int) + o)), .bool false, .bool true]) = _
        rw [Hb.out, hv]
      · go_wp2_with (first | (go_at_call 22; refine (hgrp _).mono ?_; rintro e w1 ⟨rfl, hb1⟩) | (go_at_call 21; refine (hones _).mono ?_; rintro e w2 ⟨rfl, hb2⟩))
        go_ret3
        have hv : (c0 : Int) + o = (cnt true n : Nat) := by have := Hc.out; have := Hct.out; omega
        refine ⟨?_, (hb.trans (hb1.mono hb.size)).trans (hb2.mono (Nat.le_trans hb.size hb1.size))⟩
        show Ending.returned (.tuple #[.int .i64 ((c0 : Int) + o), .bool true, .bool true]) = _
        rw [Hb.out, hv]
end Go.Proofs.YtllmjlmeheohlaaDoor
