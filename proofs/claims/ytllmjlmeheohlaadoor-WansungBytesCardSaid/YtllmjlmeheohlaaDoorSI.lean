/- Contracts of the document's Digit and In (chapter 07), for every syllable. -/
import Derived.Test.YtllmjlmeheohlaaDoorSR
set_option maxRecDepth 100000
set_option maxHeartbeats 1000000
namespace Go.Proofs.YtllmjlmeheohlaaDoor
open Go Go.RowKit

theorem Digit_low (d : Nat) (hd : d < 16) (w : World) :
    Calls Tryd.prog 24 #[.int .u8 ((hexLow d).toNat : Int)] w fun e w' => e = .returned (.int .i64 d) ∧ Below w.heap.size w w' := by
  have hv := hexLow_val d hd
  generalize (hexLow d).toNat = c at *
  rcases hv with ⟨hv, h10⟩ | ⟨hv, h10⟩
  · have h97 : ¬ (97 : Int) ≤ c := by omega
    go_enter Tryd.func24, Tryd.ntmps24
    go_wp2_with fail
    go_ret
    exact ⟨ret_int (by omega), Below.refl _ _⟩
  · have h97 : (97 : Int) ≤ c := by omega
    go_enter Tryd.func24, Tryd.ntmps24
    go_wp2_with fail
    go_ret
    exact ⟨ret_int (by omega), Below.refl _ _⟩
theorem bit_digit (x a m : Nat) (hm : m < 4) : x / 16 ^ a % 16 / 2 ^ m % 2 = x / 2 ^ (4 * a + m) % 2 := by
  rw [Nat.pow_add, Nat.pow_mul, show 2 ^ 4 = 16 from rfl, ← Nat.div_div_eq_div_mul]
  generalize x / 16 ^ a = y
  have h4 : m = 0 ∨ m = 1 ∨ m = 2 ∨ m = 3 := by omega
  rcases h4 with rfl | rfl | rfl | rfl <;> omega
def InRel7 (d0 m : Nat) (w0 : World) (d i : Value) (wr : World) : Prop := ∃ k : Nat, k ≤ m ∧ i = .int .i64 k ∧ d = .int .i64 ((d0 / 2 ^ k : Nat) : Int) ∧ Below w0.heap.size w0 wr
theorem In_any (n : Nat) (hn : n < 11172) (w : World) :
    Calls Tryd.prog 10 #[.int .i64 n] w fun e w' => e = .returned (.bool (isIn n)) ∧ Below w.heap.size w w' := by
  have hz := mB_size
  have hM : ∀ (h : 7 * (n / 28) + (6 - n % 28 / 4) < mB.size), (mB[7 * (n / 28) + (6 - n % 28 / 4)]'h) = hexLow (gr (n / 28) / 16 ^ (n % 28 / 4) % 16) := fun h => by
    rw [mB_at (n / 28) (6 - n % 28 / 4) (by omega) (by omega) h, show 6 - (6 - n % 28 / 4) = n % 28 / 4 by omega]
  have hbd := bit_digit (gr (n / 28)) (n % 28 / 4) (n % 28 % 4) (by omega)
  rw [show 4 * (n % 28 / 4) + n % 28 % 4 = n % 28 by omega] at hbd
  have hin : isIn n = (gr (n / 28) / 2 ^ (n % 28) % 2 == 1) := rfl
  rw [← hbd] at hin
  have hd16 : gr (n / 28) / 16 ^ (n % 28 / 4) % 16 < 16 := Nat.mod_lt _ (by decide)
  have hdig := fun w => Digit_low _ hd16 w
  generalize gr (n / 28) / 16 ^ (n % 28 / 4) % 16 = d0 at *
  have Hin := Lib.hid hin
  clear hin hbd
  obtain ⟨ix, hix⟩ : ∃ ix, ix = 7 * (n / 28) + (6 - n % 28 / 4) := ⟨_, rfl⟩
  have hM2 : ∀ (h : ix < mB.size), (mB[ix]'h) = hexLow d0 := by subst hix; exact hM
  clear hM
  have hi0 : (n : Int) / 28 * 7 + 6 - (n : Int) % 28 / 4 = (ix : Int) := by omega
  have hix3 : ix < 2793 := by omega
  clear hix
  refine calls_of_wp Tryd.func10 rfl ?_
  rw [litM]
  rotate_left
  kernel_rfl
  generalize mB = s at *
  have hc : (s[ix]'(by omega)) = hexLow d0 := hM2 _
  have hcn : (s[ix]'(by omega)).toNat = (hexLow d0).toNat := by rw [hc]
  have hi1 : 0 ≤ (ix : Int) ∧ (ix : Int) < (s.size : Int) := by omega
  have hi2 : ((ix : Int)).toNat = ix := by omega
  clear hM2 hc
  simp only [Tryd.ntmps10, List.size_toArray, List.length_cons, List.length_nil, Nat.reduceAdd, Nat.reduceSub, Array.replicate_succ, Array.replicate_zero, List.push_toArray, List.append_toArray, List.nil_append, List.cons_append]
  go_wp2_with (first | (go_at_call 24; refine (hdig _).mono ?_; rintro e w1 ⟨rfl, hb1⟩))
  clear hi0 hix3 hcn hi1 hi2 hdig
  go_loopw [4, 5] (fun d i wr => InRel7 d0 (n % 28 % 4) w d i wr) (fun _ i _ => n % 28 % 4 - (intOf i).toNat)
  case atStart => exact ⟨0, by omega, rfl, by simp, hb1⟩
  case round =>
    obtain ⟨k, hk, rfl, rfl, hb⟩ := hrel
    by_cases hlt : k < n % 28 % 4
    · have hs : Hid (d0 / 2 ^ (k + 1) = d0 / 2 ^ k / 2) := by rw [Nat.pow_succ, ← Nat.div_div_eq_div_mul]; rfl
      have hle : d0 / 2 ^ k ≤ d0 := Nat.div_le_self _ _
      generalize hn1 : d0 / 2 ^ (k + 1) = x1 at *
      generalize d0 / 2 ^ k = x at *
      have Hn1 := Lib.hid hn1
      clear hn1
      go_wp2_with fail
      go_roundw
      case rel => exact ⟨k + 1, by omega, by go_num, by rw [Hn1.out, hs.out]; congr 1, hb⟩
      case measure => simp [intOf]; omega
    · have hke : k = n % 28 % 4 := by omega
      subst hke
      have hle : d0 / 2 ^ (n % 28 % 4) ≤ d0 := Nat.div_le_self _ _
      generalize d0 / 2 ^ (n % 28 % 4) = x at *
      clear hlt
      go_wp2_with fail
      go_ret
      refine ⟨ret_bool ?_, hb⟩
      rw [Hin.out]
      have hx : x % 2 = 0 ∨ x % 2 = 1 := by omega
      rcases hx with hx | hx
      · have : (x : Int) % 2 = 0 := by omega
        simp [hx, this]
      · have : (x : Int) % 2 = 1 := by omega
        simp [hx, this]
end Go.Proofs.YtllmjlmeheohlaaDoor
