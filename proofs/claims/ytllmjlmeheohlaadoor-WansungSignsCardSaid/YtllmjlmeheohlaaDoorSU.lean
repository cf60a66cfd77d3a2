/- Contracts of wansung.Place, Extra, number, second, row, Sign, for every pair of bytes; condition: the table of math/bits lies as laid. -/
import Derived.Test.YtllmjlmeheohlaaDoorSQ3
set_option maxRecDepth 100000
set_option maxHeartbeats 1000000
namespace Go.Proofs.YtllmjlmeheohlaaDoor
open Go Go.RowKit

def KthZ (k : Int) (b : Bool) (p : Int) : Prop := (k < 0 ∧ p = 0) ∨ (0 ≤ k ∧ KthIs k.toNat b p)
theorem kthZ_uniq {k : Int} {b : Bool} {p q : Int} (h1 : KthZ k b p) (h2 : KthZ k b q) : p = q := by
  rcases h1 with ⟨a, rfl⟩ | ⟨a, h1⟩ <;> rcases h2 with ⟨c, rfl⟩ | ⟨c, h2⟩
  · rfl
  · omega
  · omega
  · exact kth_uniq h1 h2
theorem kthZ_ne {k : Int} {b : Bool} {p : Int} (h : KthZ k b p) : p ≠ 0 ↔ (0 ≤ k ∧ k < (if b then 2350 else 8822)) := by
  rcases h with ⟨a, rfl⟩ | ⟨a, h⟩
  · constructor
    · intro h; exact absurd rfl h
    · intro h; omega
  · have := kth_ne h
    rw [cnt_total] at this
    cases b <;> simp only [Bool.false_eq_true, if_false, if_true] at this ⊢ <;> rw [this] <;> omega
def ChPostZ (k : Int) (b : Bool) (w0 : World) (e : Ending) (w' : World) : Prop := ∃ p, e = .returned (.tuple #[.int .i32 p, .bool (p != 0)]) ∧ KthZ k b p ∧ Below w0.heap.size w0 w'
theorem Choose_z (k : Int) (hk : k ≤ 9223372036854775807) (b : Bool) (w : World) (hD : DB w) :
    Calls Tryd.prog 25 #[.int .i64 k, .bool b] w (ChPostZ k b w) := by
  by_cases h0 : k < 0
  · exact (Choose_neg k h0 b w).mono fun e w' h => ⟨0, h.1, .inl ⟨h0, rfl⟩, h.2⟩
  · have := Choose_any k.toNat (by omega) b w hD
    rw [show ((k.toNat : Nat) : Int) = k by omega] at this
    exact this.mono fun e w' ⟨p, h1, h2, h3⟩ => ⟨p, h1, .inr ⟨by omega, h2⟩, h3⟩
theorem Place_any (k : Int) (hk : k ≤ 9223372036854775807) (w : World) (hD : DB w) :
    Calls Tryd.prog 12 #[.int .i64 k] w (ChPostZ k true w) := by
  have hc := fun w => Choose_z k hk true w
  go_enter Tryd.func12, Tryd.ntmps12
  go_wp2_with (first | (go_at_call 25; refine (hc _ hD).mono ?_; rintro e w1 ⟨p, rfl, hp, hb1⟩))
  go_ret2
  exact ⟨p, rfl, hp, hb1⟩
theorem Extra_any (k : Int) (hk : k ≤ 9223372036854775807) (w : World) (hD : DB w) :
    Calls Tryd.prog 13 #[.int .i64 k] w (ChPostZ k false w) := by
  have hc := fun w => Choose_z k hk false w
  go_enter Tryd.func13, Tryd.ntmps13
  go_wp2_with (first | (go_at_call 25; refine (hc _ hD).mono ?_; rintro e w1 ⟨p, rfl, hp, hb1⟩))
  go_ret2
  exact ⟨p, rfl, hp, hb1⟩

def secZ (b : Int) : Int := if 65 ≤ b ∧ b ≤ 90 then b - 65 else if 97 ≤ b ∧ b ≤ 122 then b - 97 + 26 else if 129 ≤ b ∧ b ≤ 254 then b - 129 + 52 else -1
def backZ (n : Int) : Int := if n < 26 then 65 + n else if n < 52 then 97 + n - 26 else 129 + n - 52
theorem Number_any (b : Int) (hb : -1000 ≤ b ∧ b ≤ 1000) (w : World) :
    Calls Tryd.prog 26 #[.int .i64 b] w fun e w' => e = .returned (.int .i64 (secZ b)) ∧ Below w.heap.size w w' := by
  have h0 := hb.1
  have h1 := hb.2
  go_enter Tryd.func26, Tryd.ntmps26
  go_wp2
  all_goals go_ret
  all_goals refine ⟨ret_int ?_, Below.refl _ _⟩
  all_goals unfold secZ
  all_goals repeat' split
  all_goals omega
theorem Back_any (n : Int) (hn : 0 ≤ n ∧ n ≤ 1000) (w : World) :
    Calls Tryd.prog 29 #[.int .i64 n] w fun e w' => e = .returned (.int .i64 (backZ n)) ∧ Below w.heap.size w w' := by
  have h0 := hn.1
  have h1 := hn.2
  go_enter Tryd.func29, Tryd.ntmps29
  go_wp2
  all_goals go_ret
  all_goals refine ⟨ret_int ?_, Below.refl _ _⟩
  all_goals unfold backZ
  all_goals repeat' split
  all_goals omega
theorem secZ_bd (b : Int) : -1 ≤ secZ b ∧ secZ b ≤ 177 := by
  unfold secZ
  repeat' split
  all_goals omega
theorem back_sec {b : Int} (h : 0 ≤ secZ b) : backZ (secZ b) = b := by
  unfold secZ at h ⊢
  unfold backZ
  repeat' split at h
  all_goals (repeat' split)
  all_goals omega
theorem sec_back {n : Int} (h : 0 ≤ n ∧ n < 178) : secZ (backZ n) = n ∧ 65 ≤ backZ n ∧ backZ n ≤ 254 ∧ (n < 84 → backZ n < 161) := by
  unfold secZ backZ
  repeat' split
  all_goals omega

/-- What the two bytes in the rows stand for. -/
def RowIs (lead b p : Int) : Prop := if b = 255 then p = 0 else if 176 ≤ lead ∧ lead ≤ 200 then KthZ ((lead - 176) * 94 + b - 161) true p else p = otherZ lead b
def RowPost (lead b : Int) (w0 : World) (e : Ending) (w' : World) : Prop := ∃ p, e = .returned (.tuple #[.int .i32 p, .bool (p != 0)]) ∧ RowIs lead b p ∧ Below w0.heap.size w0 w'
theorem ne_decide' (p : Int) : (!decide (p = 0)) = (p != 0) := by
  by_cases h : p = 0 <;> simp [h]
theorem WRow_any (lead b : Int) (hl : 161 ≤ lead ∧ lead ≤ 254) (hb : 161 ≤ b ∧ b ≤ 255) (w : World) (hD : DB w) :
    Calls Tryd.prog 27 #[.int .i64 (lead - 161), .int .i64 (b - 161)] w (RowPost lead b w) := by
  generalize hP : RowPost lead b w = P at *
  by_cases h255 : b = 255
  · have hd : decide ((94 : Int) ≤ b - 161) = true := by simp; omega
    go_enter Tryd.func27, Tryd.ntmps27
    go_wp2_with fail
    show P (.returned (.tuple #[.int .i32 0, .bool false])) w
    rw [← hP]
    exact ⟨0, rfl, by unfold RowIs; rw [if_pos h255], Below.refl _ _⟩
  · have hd : decide ((94 : Int) ≤ b - 161) = false := by simp; omega
    have hR : ∀ p, RowIs lead b p ↔ (if 176 ≤ lead ∧ lead ≤ 200 then KthZ ((lead - 176) * 94 + b - 161) true p else p = otherZ lead b) := fun p => by unfold RowIs; rw [if_neg h255]
    have hpl := fun w => Place_any ((lead - 161) * 94 + (b - 161) - 1410) (by omega) w
    have hot := fun w => Other_any lead b (by omega) (by omega) w
    have he : (lead - 161) * 94 + (b - 161) - 1410 = (lead - 176) * 94 + b - 161 := by omega
    have hor : bits .or .i64 ((lead - 161 + 161) * 256) (b - 161 + 161) = lead * 256 + b := by
      rw [show lead - 161 + 161 = lead by omega, show b - 161 + 161 = b by omega]
      exact i64_or8 (by omega) (by omega) (by omega) (by omega)
    have He := Lib.hid he
    have HR := Lib.hid hR
    clear hR he
    generalize hf : lead - 161 = f at *
    generalize hs : b - 161 = s at *
    have Hf := Lib.hid hf
    have Hs := Lib.hid hs
    have f0 : 0 ≤ f ∧ f ≤ 93 := by omega
    have s0 : 0 ≤ s ∧ s ≤ 93 := by omega
    clear hf hs
    go_enter Tryd.func27, Tryd.ntmps27
    go_wp2_with (first | (go_at_call 12; refine (hpl _ hD).mono ?_; rintro e w1 ⟨p, rfl, hp, hb1⟩) | (go_at_call 41; refine (hot _).mono ?_; rintro e w2 ⟨rfl, hb2⟩))
    · rename_i hne
      have hne2 : p ≠ 0 := by simpa using hne
      have hk := (kthZ_ne hp).1 hne2
      simp only [if_true] at hk
      have hrng : 176 ≤ lead ∧ lead ≤ 200 := by have := Hf.out; have := Hs.out; omega
      show P (.returned (.tuple #[.int .i32 p, .bool true])) w1
      rw [← hP]
      exact ⟨p, by rw [hne], (HR.out p).2 (by rw [if_pos hrng, ← He.out]; exact hp), hb1⟩
    · rename_i hne
      have hne2 : ¬ (p ≠ 0) := by simpa using hne
      have hk := fun h => hne2 ((kthZ_ne hp).2 h)
      simp only [if_true] at hk
      have hrng : ¬ (176 ≤ lead ∧ lead ≤ 200) := by
        intro h
        have := Hf.out; have := Hs.out
        exact hk (by omega)
      show P (.returned (.tuple #[.int .i32 (otherZ lead b), .bool (!decide (otherZ lead b = 0))])) w2
      rw [← hP]
      exact ⟨otherZ lead b, by rw [ne_decide'], (HR.out _).2 (by rw [if_neg hrng]), hb1.trans (hb2.mono hb1.size)⟩
/-- What two bytes stand for. -/
def SignIs (lead b p : Int) : Prop := if secZ b < 0 ∨ lead < 129 ∨ 254 < lead then p = 0 else if lead < 161 then KthZ ((lead - 129) * 178 + secZ b) false p else if b < 161 then KthZ (5696 + (lead - 161) * 84 + secZ b) false p else RowIs lead b p
def SgPost (lead b : Int) (w0 : World) (e : Ending) (w' : World) : Prop := ∃ p, e = .returned (.tuple #[.int .i32 p, .bool (p != 0)]) ∧ SignIs lead b p ∧ Below w0.heap.size w0 w'
theorem Sign_any (lead b : Int) (hl : 0 ≤ lead ∧ lead ≤ 255) (hb : 0 ≤ b ∧ b ≤ 255) (w : World) (hD : DB w) :
    Calls Tryd.prog 15 #[.int .u8 lead, .int .u8 b] w (SgPost lead b w) := by
  generalize hP : SgPost lead b w = P at *
  have hnum := fun w => Number_any b (by omega) w
  have hsb := secZ_bd b
  obtain ⟨l0, l1⟩ := hl
  obtain ⟨b0, b1⟩ := hb
  by_cases hA : lead < 129 ∨ 254 < lead
  · have hr : SignIs lead b 0 := by unfold SignIs; rw [if_pos (by omega)]
    have Hr := Lib.hid hr
    clear hr
    generalize secZ b = n at *
    rcases hA with h | h
    · go_enter Tryd.func15, Tryd.ntmps15
      go_wp2_with (first | (go_at_call 26; refine (hnum _).mono ?_; rintro e w1 ⟨rfl, hb1⟩))
      show P (.returned (.tuple #[.int .i32 0, .bool false])) _
      rw [← hP]
      exact ⟨0, rfl, Hr.out, hb1⟩
    · have h2 : ¬ lead < 129 := by omega
      go_enter Tryd.func15, Tryd.ntmps15
      go_wp2_with (first | (go_at_call 26; refine (hnum _).mono ?_; rintro e w1 ⟨rfl, hb1⟩))
      show P (.returned (.tuple #[.int .i32 0, .bool false])) _
      rw [← hP]
      exact ⟨0, rfl, Hr.out, hb1⟩
  have hA1 : ¬ lead < 129 := by omega
  have hA2 : ¬ 254 < lead := by omega
  by_cases hB : 161 ≤ lead ∧ 161 ≤ b
  · obtain ⟨h1, h2⟩ := hB
    have hro := fun w => WRow_any lead b (by omega) (by omega) w
    have hr : ∀ p, RowIs lead b p → SignIs lead b p := by
      intro p hp
      unfold SignIs
      by_cases h255 : b = 255
      · unfold RowIs at hp
        rw [if_pos h255] at hp
        rw [if_pos (by left; subst h255; decide)]
        exact hp
      · rw [if_neg, if_neg (by omega), if_neg (by omega)]
        · exact hp
        · have : 0 ≤ secZ b := by
            unfold secZ
            rw [if_neg (by omega), if_neg (by omega), if_pos (by omega)]
            omega
          omega
    have Hr := Lib.hid hr
    clear hr
    generalize secZ b = n at *
    have hge : 0 ≤ lead - 161 := by omega
    go_enter Tryd.func15, Tryd.ntmps15
    go_wp2_with (first | (go_at_call 26; refine (hnum _).mono ?_; rintro e w1 ⟨rfl, hb1⟩) | (go_at_call 27; refine (hro _ (DB_below hD hb1 (Nat.le_refl _))).mono ?_; rintro e w2 ⟨p, rfl, hp, hb2⟩))
    show P (.returned (.tuple #[.int .i32 p, .bool (p != 0)])) _
    rw [← hP]
    exact ⟨p, rfl, Hr.out p hp, hb1.trans (hb2.mono hb1.size)⟩
  by_cases hC : secZ b < 0
  · have hr : SignIs lead b 0 := by unfold SignIs; rw [if_pos (by omega)]
    have Hr := Lib.hid hr
    clear hr
    generalize secZ b = n at *
    by_cases h1 : 161 ≤ lead
    · have hge : decide (0 ≤ lead - 161) = true := by simp; omega
      have h2 : ¬ 161 ≤ b := by omega
      go_enter Tryd.func15, Tryd.ntmps15
      go_wp2_with (first | (go_at_call 26; refine (hnum _).mono ?_; rintro e w1 ⟨rfl, hb1⟩))
      show P (.returned (.tuple #[.int .i32 0, .bool false])) _
      rw [← hP]
      exact ⟨0, rfl, Hr.out, hb1⟩
    · have hge : decide (0 ≤ lead - 161) = false := by simp; omega
      go_enter Tryd.func15, Tryd.ntmps15
      go_wp2_with (first | (go_at_call 26; refine (hnum _).mono ?_; rintro e w1 ⟨rfl, hb1⟩))
      show P (.returned (.tuple #[.int .i32 0, .bool false])) _
      rw [← hP]
      exact ⟨0, rfl, Hr.out, hb1⟩
  by_cases hE : lead < 161
  · have hr : ∀ p, KthZ ((lead - 129) * 178 + secZ b) false p → SignIs lead b p := by
      intro p hp
      unfold SignIs
      rw [if_neg (by omega), if_pos hE]
      exact hp
    have hex := fun w => Extra_any ((lead - 129) * 178 + secZ b) (by omega) w
    have Hr := Lib.hid hr
    clear hr
    generalize secZ b = n at *
    have hge : decide (0 ≤ lead - 161) = false := by simp; omega
    have hge2 : decide (lead - 161 < 0) = true := by simp; omega
    go_enter Tryd.func15, Tryd.ntmps15
    go_wp2_with (first | (go_at_call 26; refine (hnum _).mono ?_; rintro e w1 ⟨rfl, hb1⟩) | (go_at_call 13; refine (hex _ (DB_below hD hb1 (Nat.le_refl _))).mono ?_; rintro e w2 ⟨p, rfl, hp, hb2⟩))
    show P (.returned (.tuple #[.int .i32 p, .bool (p != 0)])) _
    rw [← hP]
    exact ⟨p, rfl, Hr.out p hp, hb1.trans (hb2.mono hb1.size)⟩
  · have hr : ∀ p, KthZ (5696 + (lead - 161) * 84 + secZ b) false p → SignIs lead b p := by
      intro p hp
      unfold SignIs
      rw [if_neg (by omega), if_neg hE, if_pos (by omega)]
      exact hp
    have hex := fun w => Extra_any (5696 + (lead - 161) * 84 + secZ b) (by omega) w
    have Hr := Lib.hid hr
    clear hr
    generalize secZ b = n at *
    have hge : decide (0 ≤ lead - 161) = true := by simp; omega
    have hge2 : decide (lead - 161 < 0) = false := by simp; omega
    have h2 : ¬ 161 ≤ b := by omega
    go_enter Tryd.func15, Tryd.ntmps15
    go_wp2_with (first | (go_at_call 26; refine (hnum _).mono ?_; rintro e w1 ⟨rfl, hb1⟩) | (go_at_call 13; refine (hex _ (DB_below hD hb1 (Nat.le_refl _))).mono ?_; rintro e w2 ⟨p, rfl, hp, hb2⟩))
    show P (.returned (.tuple #[.int .i32 p, .bool (p != 0)])) _
    rw [← hP]
    exact ⟨p, rfl, Hr.out p hp, hb1.trans (hb2.mono hb1.size)⟩
end Go.Proofs.YtllmjlmeheohlaaDoor
