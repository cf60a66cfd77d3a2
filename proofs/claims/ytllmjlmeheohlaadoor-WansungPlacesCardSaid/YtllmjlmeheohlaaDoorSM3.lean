/- Chapter 07 in plain numbers: clearing the lowest bit k times leads to the k-th set bit; the k-th syllable. No program in sight. -/
import Derived.Test.YtllmjlmeheohlaaDoorSM2
set_option maxRecDepth 100000
set_option maxHeartbeats 1000000
namespace Go.Proofs.YtllmjlmeheohlaaDoor
open Go

theorem odd_inj {r s m n : Nat} (h : 2 ^ r * (2 * m + 1) = 2 ^ s * (2 * n + 1)) : ¬ r < s := by
  intro hrs
  obtain ⟨d, rfl⟩ : ∃ d, s = r + (d + 1) := ⟨s - r - 1, by omega⟩
  rw [Nat.pow_add, Nat.mul_assoc] at h
  have := Nat.eq_of_mul_eq_mul_left (Nat.two_pow_pos r) h
  rw [Nat.pow_succ, Nat.mul_comm (2 ^ d) 2, Nat.mul_assoc] at this
  omega
theorem low_form (f x : Nat) (h0 : 0 < x) (h : x < 2 ^ f) : ∃ c m, x = 2 ^ c * (2 * m + 1) ∧ c < f := by
  obtain ⟨m, h1, h2⟩ := Lib.ctzFrom_spec f x h0 h
  exact ⟨_, m, h1, h2⟩
theorem ctz_eq {x r m : Nat} (h : x = 2 ^ r * (2 * m + 1)) (hx : x < 2 ^ 32) : Lib.ctz 32 x = r := by
  have hp : 0 < x := by rw [h]; exact Nat.mul_pos (Nat.two_pow_pos r) (by omega)
  obtain ⟨m', h1, h2⟩ := Lib.ctzFrom_spec 32 x hp hx
  unfold Lib.ctz
  rw [if_neg (by omega)]
  have h3 := h.symm.trans h1
  have a := odd_inj h3
  have b := odd_inj h3.symm
  omega
theorem ones_pos (y : Nat) (h0 : 0 < y) (h : y < 2 ^ 64) : 0 < Lib.onesCount y := by
  obtain ⟨c, m, h1, _⟩ := low_form 64 y h0 h
  unfold Lib.onesCount
  rw [h1, pop_low c 64 m (by rw [← h1]; exact h)]
  exact Nat.succ_pos _
theorem split_low (c e q m : Nat) : 2 ^ (c + (e + 1)) * (2 * q + 1) + 2 ^ c * (2 * m + 1) = 2 ^ c * (2 * (2 ^ e * (2 * q + 1) + m) + 1) := by
  have h1 : 2 ^ (c + (e + 1)) * (2 * q + 1) = 2 ^ c * (2 * (2 ^ e * (2 * q + 1))) := by
    rw [Nat.pow_add, Nat.pow_succ, Nat.mul_assoc, Nat.mul_assoc, Nat.mul_left_comm 2 (2 ^ e)]
  rw [h1, ← Nat.mul_add]
  congr 1
  omega
theorem join_low (c e q m : Nat) : 2 ^ (c + 1) * (2 ^ e * (2 * q + 1) + m) = 2 ^ (c + (e + 1)) * (2 * q + 1) + 2 ^ (c + 1) * m := by
  rw [Nat.mul_add, ← Nat.mul_assoc, ← Nat.pow_add, show c + 1 + e = c + (e + 1) by omega]
theorem sel' (pc : Nat → Nat) (p0 : pc 0 = 0) (ppos : ∀ y, 0 < y → y < 2 ^ 64 → 0 < pc y) (plow : ∀ c m, 2 ^ c * (2 * m + 1) < 2 ^ 64 → pc (2 ^ c * (2 * m + 1)) = pc (2 ^ (c + 1) * m) + 1) (tz : Nat → Nat) (htz : ∀ r m, 2 ^ r * (2 * m + 1) < 2 ^ 32 → tz (2 ^ r * (2 * m + 1)) = r) : ∀ (k q r y : Nat), y < 2 ^ r → 2 ^ r * (2 * q + 1) + y < 2 ^ 32 → pc y = k → tz (clr (2 ^ r * (2 * q + 1) + y) k) = r
  | 0, q, r, y, hy, hx, hk => by
    have h0 : y = 0 := by
      by_cases h : y = 0
      · exact h
      · have h1 := ppos y (by omega) (by omega)
        rw [hk] at h1
        exact absurd h1 (Nat.lt_irrefl 0)
    subst h0
    rw [Nat.add_zero] at hx ⊢
    exact htz r q hx
  | k + 1, q, r, y, hy, hx, hk => by
    have h0 : 0 < y := by
      by_cases h : y = 0
      · rw [h, p0] at hk
        exact absurd hk (Nat.succ_ne_zero k).symm
      · omega
    obtain ⟨c, m, h1, hc⟩ := low_form r y h0 hy
    obtain ⟨e, rfl⟩ : ∃ e, r = c + (e + 1) := ⟨r - c - 1, by omega⟩
    have h64 : y < 2 ^ 64 := by omega
    have hk2 : pc (2 ^ (c + 1) * m) = k := by
      have := plow c m (by rw [← h1]; exact h64)
      rw [h1, this] at hk
      exact Nat.succ.inj hk
    have hle : 2 ^ (c + 1) * m ≤ y := by
      rw [h1, Nat.pow_succ, Nat.mul_assoc]
      exact Nat.mul_le_mul_left _ (by omega)
    have hstep : (2 ^ (c + (e + 1)) * (2 * q + 1) + y) &&& (2 ^ (c + (e + 1)) * (2 * q + 1) + y - 1) = 2 ^ (c + (e + 1)) * (2 * q + 1) + 2 ^ (c + 1) * m := by
      rw [h1, split_low, and_pred, join_low]
    show tz (clr _ k) = _
    rw [hstep]
    exact sel' pc p0 ppos plow tz htz k q (c + (e + 1)) (2 ^ (c + 1) * m) (by omega) (by omega) hk2
theorem sel (x r : Nat) (hx : x < 2 ^ 28) (hb : x / 2 ^ r % 2 = 1) : Lib.ctz 32 (clr x (Lib.onesCount (x % 2 ^ r))) = r := by
  have hd := Nat.div_add_mod x (2 ^ r)
  have e : 2 * (x / 2 ^ r / 2) + 1 = x / 2 ^ r := by omega
  have h := sel' Lib.onesCount ones_zero ones_pos (fun c m h => pop_low c 64 m h) (Lib.ctz 32) (fun _ _ h => ctz_eq rfl h) (Lib.onesCount (x % 2 ^ r)) (x / 2 ^ r / 2) r (x % 2 ^ r) (Nat.mod_lt _ (Nat.two_pow_pos r)) (by rw [e, hd]; omega) rfl
  rw [e, hd] at h
  exact h
end Go.Proofs.YtllmjlmeheohlaaDoor
