/- Chapter 07 in plain numbers: the groups of syllables, how many of them stand ahead of one, and which is the k-th. No program in sight. -/
import Derived.Test.YtllmjlmeheohlaaDoorHex
import Derived.Lib.BitFns
import Derived.Lib.TrailingZeros
set_option maxRecDepth 100000
set_option maxHeartbeats 1000000
namespace Go.Proofs.YtllmjlmeheohlaaDoor
open Go

def G : List Nat := [
  251594643, 3866899, 2621715, 273, 242943379, 3866897, 37421463, 655633, 7050643, 2819347, 3277073, 2818323,
  655633, 7047059, 3146003, 524289, 721171, 273, 2818963, 1, 74122643, 37422359, 3866899, 259,
  0, 3866903, 2686995, 35127569, 1, 15401299, 3145987, 2097155, 2294033, 1, 7045395, 3145985,
  1245459, 196881, 1, 36406611, 0, 2818323, 184223639, 3866899, 2162963, 0, 138087707, 3866899,
  20119827, 17, 204145939, 1048849, 0, 721169, 2752787, 2818451, 1048577, 1, 196881, 2294019,
  74123027, 273, 69928211, 150704023, 3866899, 1, 0, 78318999, 3866899, 3146001, 17, 44766611,
  273, 1048577, 721169, 1, 2818323, 1048577, 2097153, 2752785, 2162961, 2819475, 1, 8061331,
  138084627, 3866899, 0, 0, 138087699, 3866899, 1048577, 0, 2097427, 257, 1, 17,
  0, 2195731, 0, 1, 2294033, 0, 721299, 196881, 2818321, 209387795, 3866899, 2621459,
  0, 138084627, 2818323, 3866899, 655377, 2818323, 2097169, 1048576, 2818321, 2752785, 2818323, 1048577,
  1, 2687251, 2818323, 107675923, 0, 2818323, 174786515, 8061203, 2097411, 0, 141231379, 3866899,
  12058899, 1, 2819355, 3145745, 0, 2752785, 655633, 170592151, 655633, 1, 273, 590097,
  590097, 0, 45811091, 36376479, 37421331, 131091, 0, 7013779, 3867027, 37355795, 17, 2818327,
  1048593, 1048577, 196883, 17, 103483283, 1048833, 1, 2097427, 2687249, 721171, 0, 15402259,
  138085651, 3866899, 65539, 0, 3735955, 2097153, 3866627, 0, 2294035, 0, 0, 1,
  2097153, 2687251, 0, 0, 0, 2097153, 196881, 0, 2818323, 37423003, 3866899, 2818323,
  2162961, 70978975, 3866899, 3866899, 2097425, 36373783, 2097427, 1638673, 721169, 2818323, 111870355, 1048577,
  2162963, 2818323, 2687235, 2818835, 0, 69960083, 137560347, 3342611, 2097152, 0, 3343635, 273,
  0, 16, 2295187, 1048595, 1048577, 196881, 1, 2294035, 1048577, 1, 17, 2097152,
  230675, 65809, 2818323, 104564595, 3866899, 170592531, 131345, 92211123, 2818323, 239013143, 1769745, 11245331,
  3866899, 2686995, 2818323, 2818323, 2819859, 3342611, 2294035, 2818323, 11206931, 267075859, 590097, 75204371,
  8062419, 3866899, 2163027, 273, 7013651, 2818323, 3342609, 1, 149619987, 2752771, 3145729, 2818321,
  2097171, 2819859, 1048577, 1, 721171, 65809, 2818323, 0, 107677075, 3869011, 3866899, 2097169,
  0, 3866899, 2097153, 1048577, 0, 11206931, 1048835, 1048577, 196881, 2097152, 2294035, 3145729,
  0, 1, 1, 2686977, 0, 140706067, 8061267, 3866899, 2163025, 0, 3866899, 2818323,
  1048593, 2097169, 2818323, 2097425, 0, 2818321, 65537, 2818323, 1048577, 17, 2818321, 2162961,
  2818323, 0, 2818963, 2818323, 3866899, 2097155, 0, 3867027, 2818323, 3866897, 1, 2818323,
  2162963, 2097153, 257, 1, 2818323, 2097425, 2097153, 2818323, 65809, 2294035, 0, 2818323,
  3867411, 3866899, 2097153, 0, 3867923, 2818323, 1048593, 17, 69927187, 17, 1, 2621457,
  1, 2818323, 1048577, 1, 2294035, 2162961, 722323, 196881, 2818323, 37422359, 3866899, 3,
  0, 3866899, 2818323, 3342609, 655617, 2818323, 2097153, 0, 17, 655633, 2819475, 2097153,
  0, 590097, 2687249, 721169, 0, 2818323, 2826515, 3866899, 2097153, 0, 2819347, 2818323,
  3866899, 131345, 36380947, 2621715, 2621459, 2752787, 655633, 2695443, 2162961, 2097427, 2818323, 2687251,
  36373459, 2294033, 2818323]
def gr (g : Nat) : Nat := G.getD g 0
/-- Is the n-th syllable in the rows? -/
def isIn (n : Nat) : Bool := gr (n / 28) / 2 ^ (n % 28) % 2 == 1
/-- How many syllables ahead of the n-th are in the rows (b), or not. -/
def cnt (b : Bool) : Nat → Nat
  | 0 => 0
  | n + 1 => cnt b n + (if isIn n = b then 1 else 0)
theorem cnt_both (n : Nat) : cnt true n + cnt false n = n := by
  induction n with
  | zero => rfl
  | succ n ih =>
    simp only [cnt]
    cases isIn n <;> simp <;> omega
theorem cnt_mono (b : Bool) {m n : Nat} (h : m ≤ n) : cnt b m ≤ cnt b n := by
  induction n with
  | zero => have : m = 0 := by omega
            subst this; exact Nat.le_refl _
  | succ n ih =>
    by_cases e : m = n + 1
    · subst e; exact Nat.le_refl _
    · have := ih (by omega)
      simp only [cnt]; omega
theorem pop_step : ∀ (r f x : Nat), r < f → Lib.popAux f (x % 2 ^ (r + 1)) = Lib.popAux f (x % 2 ^ r) + x / 2 ^ r % 2
  | 0, f, x, h => by
    match f, h with
    | f + 1, _ =>
      have h0 : ∀ f, Lib.popAux f 0 = 0 := by
        intro f; induction f with
        | zero => rfl
        | succ f ih => simp [Lib.popAux, ih]
      simp only [Lib.popAux, Nat.pow_zero, Nat.mod_one, Nat.zero_mod, Nat.zero_div, h0, Nat.div_one, Nat.zero_add, Nat.pow_one]
      have e1 : x % 2 % 2 = x % 2 := by omega
      have e2 : x % 2 / 2 = 0 := by omega
      rw [e1, e2, h0, Nat.add_zero]
  | r + 1, f, x, h => by
    match f, h with
    | f + 1, h =>
      have ih := pop_step r f (x / 2) (by omega)
      have e1 : x % 2 ^ (r + 1 + 1) % 2 = x % 2 := by
        rw [Nat.pow_succ, Nat.mod_mul_left_mod]
      have e2 : x % 2 ^ (r + 1) % 2 = x % 2 := by
        rw [Nat.pow_succ, Nat.mod_mul_left_mod]
      have e3 : x % 2 ^ (r + 1 + 1) / 2 = x / 2 % 2 ^ (r + 1) := by
        rw [Nat.pow_succ 2 (r + 1), Nat.mul_comm, Nat.mod_mul_right_div_self]
      have e4 : x % 2 ^ (r + 1) / 2 = x / 2 % 2 ^ r := by
        rw [Nat.pow_succ 2 r, Nat.mul_comm, Nat.mod_mul_right_div_self]
      have e5 : x / 2 ^ (r + 1) = x / 2 / 2 ^ r := by
        rw [Nat.pow_succ, Nat.mul_comm, Nat.div_div_eq_div_mul]
      simp only [Lib.popAux, e1, e2, e3, e4, e5, ih]
      omega
theorem ones_step (r x : Nat) (h : r < 64) : Lib.onesCount (x % 2 ^ (r + 1)) = Lib.onesCount (x % 2 ^ r) + x / 2 ^ r % 2 := pop_step r 64 x h
theorem ones_zero : Lib.onesCount 0 = 0 := by decide
theorem G_len : G.length = 399 := by decide +kernel
theorem G_all : G.all (fun x => Nat.ble x 268435455) = true := by decide +kernel
theorem gr_lt (g : Nat) : gr g < 2 ^ 28 := by
  unfold gr
  rw [List.getD_eq_getElem?_getD]
  by_cases h : g < G.length
  · rw [List.getElem?_eq_getElem h]
    have := List.all_eq_true.1 G_all _ (List.getElem_mem h)
    have := Nat.le_of_ble_eq_true this
    simp only [Option.getD_some]
    omega
  · rw [List.getElem?_eq_none (by omega)]; simp
/-- Counting within a group. -/
theorem cnt_group (g r : Nat) (h : r ≤ 28) : cnt true (28 * g + r) = cnt true (28 * g) + Lib.onesCount (gr g % 2 ^ r) := by
  induction r with
  | zero => simp [Nat.mod_one, ones_zero]
  | succ r ih =>
    have ih := ih (by omega)
    have e1 : (28 * g + r) / 28 = g := by omega
    have e2 : (28 * g + r) % 28 = r := by omega
    have hs := ones_step r (gr g) (by omega)
    rw [show 28 * g + (r + 1) = 28 * g + r + 1 by omega]
    simp only [cnt, isIn, e1, e2, ih, hs]
    have hb : gr g / 2 ^ r % 2 = 0 ∨ gr g / 2 ^ r % 2 = 1 := by omega
    rcases hb with hb | hb <;> simp [hb]
    omega
theorem cnt_next (g : Nat) : cnt true (28 * (g + 1)) = cnt true (28 * g) + Lib.onesCount (gr g) := by
  have h := cnt_group g 28 (by omega)
  rw [Nat.mod_eq_of_lt (gr_lt g)] at h
  rw [show 28 * (g + 1) = 28 * g + 28 by omega]
  exact h
end Go.Proofs.YtllmjlmeheohlaaDoor
