/- Chapter 07 in plain numbers: which syllable is the k-th one is settled; how many there are. No program in sight. -/
import Derived.Test.YtllmjlmeheohlaaDoorSK
set_option maxRecDepth 100000
set_option maxHeartbeats 1000000
namespace Go.Proofs.YtllmjlmeheohlaaDoor
open Go

def bsum (x : Nat) : Nat → Nat
  | 0 => 0
  | r + 1 => bsum x r + x / 2 ^ r % 2
theorem ones_bsum (x : Nat) : ∀ r, r ≤ 64 → Lib.onesCount (x % 2 ^ r) = bsum x r
  | 0, _ => by simp [Nat.mod_one, ones_zero, bsum]
  | r + 1, h => by
    rw [ones_step r x (by omega), ones_bsum x r (by omega)]
    rfl
def pop28 (x : Nat) : Nat := x % 2 + x / 2 % 2 + x / 4 % 2 + x / 8 % 2 + x / 16 % 2 + x / 32 % 2 + x / 64 % 2 + x / 128 % 2 + x / 256 % 2 + x / 512 % 2 + x / 1024 % 2 + x / 2048 % 2 + x / 4096 % 2 + x / 8192 % 2 + x / 16384 % 2 + x / 32768 % 2 + x / 65536 % 2 + x / 131072 % 2 + x / 262144 % 2 + x / 524288 % 2 + x / 1048576 % 2 + x / 2097152 % 2 + x / 4194304 % 2 + x / 8388608 % 2 + x / 16777216 % 2 + x / 33554432 % 2 + x / 67108864 % 2 + x / 134217728 % 2
theorem ones_pop28 (x : Nat) (h : x < 2 ^ 28) : Lib.onesCount x = pop28 x := by
  have e := ones_bsum x 28 (by omega)
  rw [Nat.mod_eq_of_lt h] at e
  rw [e]
  simp only [bsum, pop28, Nat.zero_add, Nat.pow_zero, Nat.div_one]
def sumG : List Nat → Nat
  | [] => 0
  | x :: l => pop28 x + sumG l
theorem sumG_all : Nat.beq (sumG G) 2350 = true := by decide +kernel
theorem sumG_snoc (l : List Nat) (x : Nat) : sumG (l ++ [x]) = sumG l + pop28 x := by
  induction l with
  | nil => simp [sumG]
  | cons y l ih => simp only [List.cons_append, sumG, ih]; rw [Nat.add_assoc]
theorem cnt_sumG : ∀ m, m ≤ 399 → cnt true (28 * m) = sumG (G.take m)
  | 0, _ => rfl
  | m + 1, h => by
    have hl := G_len
    rw [cnt_next m, cnt_sumG m (by omega), List.take_succ_eq_append_getElem (by omega), sumG_snoc, ones_pop28 _ (gr_lt m)]
    have : gr m = G[m]'(by omega) := by unfold gr; rw [List.getD_eq_getElem?_getD, List.getElem?_eq_getElem (by omega)]; rfl
    rw [this]
theorem cnt_in : cnt true 11172 = 2350 := by
  have h := cnt_sumG 399 (by omega)
  rw [List.take_of_length_le (by rw [G_len]; omega)] at h
  exact h.trans (Nat.eq_of_beq_eq_true sumG_all)
theorem cnt_out : cnt false 11172 = 8822 := by
  have := cnt_both 11172
  rw [cnt_in] at this
  omega
theorem cnt_total (b : Bool) : cnt b 11172 = if b then 2350 else 8822 := by
  cases b
  · exact cnt_out
  · exact cnt_in
theorem cnt_lt {b : Bool} {m n : Nat} (h : m < n) (hm : isIn m = b) : cnt b m < cnt b n := by
  have h1 : cnt b (m + 1) = cnt b m + 1 := by simp [cnt, hm]
  have h2 := cnt_mono b (show m + 1 ≤ n by omega)
  omega
theorem kth_uniq {k : Nat} {b : Bool} {p q : Int} (h1 : KthIs k b p) (h2 : KthIs k b q) : p = q := by
  rcases h1 with ⟨m, a1, a2, a3, rfl⟩ | ⟨a1, rfl⟩ <;> rcases h2 with ⟨n, b1, b2, b3, rfl⟩ | ⟨b1, rfl⟩
  · have hmn : m = n := by
      rcases Nat.lt_trichotomy m n with h | h | h
      · have := cnt_lt h a2; omega
      · exact h
      · have := cnt_lt h b2; omega
    rw [hmn]
  · have := cnt_lt (show m < 11172 by omega) a2
    omega
  · have := cnt_lt (show n < 11172 by omega) b2
    omega
  · rfl
theorem kth_rank {n : Nat} {p : Int} (hn : n < 11172) (h : KthIs (cnt (isIn n) n) (isIn n) p) : p = 44032 + n :=
  kth_uniq h (.inl ⟨n, hn, rfl, rfl, rfl⟩)
theorem kth_ne {k : Nat} {b : Bool} {p : Int} (h : KthIs k b p) : (p ≠ 0) ↔ k < cnt b 11172 := by
  rcases h with ⟨m, a1, a2, a3, rfl⟩ | ⟨a1, rfl⟩
  · have := cnt_lt (show m < 11172 by omega) a2
    constructor <;> intro <;> omega
  · constructor <;> intro h <;> omega
theorem kth_rng {k : Nat} {b : Bool} {p : Int} (h : KthIs k b p) : p = 0 ∨ (44032 ≤ p ∧ p ≤ 55203) := by
  rcases h with ⟨m, a1, a2, a3, rfl⟩ | ⟨a1, rfl⟩
  · right; omega
  · left; rfl
theorem ex_step (pc bit : Nat → Nat) (h0 : pc 0 = 0) (hs : ∀ r, r < 28 → pc (r + 1) = pc r + bit r) (hb : ∀ r, bit r = 0 ∨ bit r = 1) (k : Nat) : ∀ r, r ≤ 28 → k < pc r → ∃ r', r' < r ∧ bit r' = 1 ∧ pc r' = k
  | 0, _, h => by rw [h0] at h; exact absurd h (Nat.not_lt_zero _)
  | r + 1, hr, h => by
    have h1 := hs r (by omega)
    have h2 := hb r
    by_cases hk : k < pc r
    · obtain ⟨r', a, b, c⟩ := ex_step pc bit h0 hs hb k r (by omega) hk
      exact ⟨r', by omega, b, c⟩
    · exact ⟨r, by omega, by omega, by omega⟩
theorem bit01 (x r : Nat) : x / 2 ^ r % 2 = 0 ∨ x / 2 ^ r % 2 = 1 := by omega
/-- The set bit with k set ones below it. -/
theorem ones_ex (x k : Nat) (h : k < Lib.onesCount (x % 2 ^ 28)) : ∃ r', r' < 28 ∧ x / 2 ^ r' % 2 = 1 ∧ Lib.onesCount (x % 2 ^ r') = k :=
  ex_step (fun r => Lib.onesCount (x % 2 ^ r)) (fun r => x / 2 ^ r % 2) (by show Lib.onesCount (x % 2 ^ 0) = 0; rw [Nat.pow_zero, Nat.mod_one, ones_zero]) (fun r hr => ones_step r x (Nat.lt_trans hr (by decide))) (bit01 x) k 28 (Nat.le_refl _) h
theorem clr_succ : ∀ (j x : Nat), clr x (j + 1) = clr x j &&& (clr x j - 1)
  | 0, _ => rfl
  | j + 1, x => clr_succ j (x &&& (x - 1))
theorem clr_lt : ∀ (j x : Nat), x < 2 ^ 28 → clr x j < 2 ^ 28
  | 0, _, h => h
  | j + 1, _, h => clr_lt j _ (Nat.lt_of_le_of_lt Nat.and_le_left h)
theorem lt399 {g r : Nat} (hg : g < 399) (hr : r < 28) : 28 * g + r < 11172 := by omega
theorem p_eq (g r : Nat) : (44032 : Int) + 28 * g + (r : Int) = 44032 + ((28 * g + r : Nat) : Int) := by omega
/-- The k-th of a group. -/
theorem pick (b : Bool) (g k : Nat) (hg : g < 399) (hlo : cnt b (28 * g) ≤ k) (hhi : k - cnt b (28 * g) < Lib.onesCount (grp b g)) :
    KthIs k b (44032 + 28 * g + Lib.ctz 32 (clr (grp b g) (k - cnt b (28 * g)))) ∧ Lib.ctz 32 (clr (grp b g) (k - cnt b (28 * g))) < 28 := by
  have hx := grp_lt b g
  obtain ⟨r, hr, hb, ho⟩ := ones_ex (grp b g) (k - cnt b (28 * g)) (by rw [Nat.mod_eq_of_lt hx]; exact hhi)
  have hs := sel (grp b g) r hx hb
  rw [ho] at hs
  rw [hs]
  refine ⟨.inl ⟨28 * g + r, lt399 hg hr, (grp_bit b g r hr).2 hb, ?_, p_eq g r⟩, hr⟩
  rw [cnt_grp b g r (Nat.le_of_lt hr), ho, Nat.add_sub_cancel' hlo]
end Go.Proofs.YtllmjlmeheohlaaDoor
