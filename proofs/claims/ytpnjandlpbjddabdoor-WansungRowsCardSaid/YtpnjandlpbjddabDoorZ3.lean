/- Contract: the document's sign at a place (diacriticref02.At). -/
import Derived.Test.YtpnjandlpbjddabDoorZ2
import Derived.LoopN
import Derived.Lib.EndianBits
import Derived.Test.YtpnjandlpbjddabDoorZ1
import Derived.WalkKit
import Derived.WalkSpells
import Derived.Outline
import Derived.Deep.DeepFit
import Derived.Test.YtpnjandlpbjddabDoorRows
import Derived.Laws.Tables
import Derived.Deep.WholeRow
import Derived.Deep.QuietTactic
import Derived.BigQuiet
namespace Go.Proofs.YtpnjandlpbjddabDoor
open Go Go.RowKit

def chkZ (n p : Int) : Int × Int := if scalarB p = true ∧ ((Lib.encodeRune p).length : Int) = n then (p, n) else (0, 0)
def atZ (c m1 m2 m3 : Int) : Int × Int :=
  if c < 128 then (c, 1)
  else if 192 ≤ c ∧ c < 224 then (if m1 < 0 then (0, 0) else chkZ 2 ((c - 192) * 64 + m1))
  else if 224 ≤ c ∧ c < 240 then (if m1 < 0 then (0, 0) else if m2 < 0 then (0, 0) else chkZ 3 (((c - 224) * 64 + m1) * 64 + m2))
  else if 240 ≤ c ∧ c < 248 then (if m1 < 0 then (0, 0) else if m2 < 0 then (0, 0) else if m3 < 0 then (0, 0) else chkZ 4 ((((c - 240) * 64 + m1) * 64 + m2) * 64 + m3))
  else (0, 0)
def AtPost (R : Int × Int) (w : World) (e : Ending) (w' : World) : Prop := e = .returned (.tuple #[.int .i32 R.1, .int .i64 R.2]) ∧ Below w.heap.size w w'
theorem at_mk {a b : Int} {R : Int × Int} {w w' : World} (h : R = (a, b)) (hb : Below w.heap.size w w') : AtPost R w (.returned (.tuple #[.int .i32 a, .int .i64 b])) w' := by
  subst h; exact ⟨rfl, hb⟩
theorem moreZ_bd (l : List UInt8) (i : Nat) : -1 ≤ moreZ l i ∧ moreZ l i < 64 := by
  unfold moreZ
  split
  · omega
  · split <;> omega

theorem At_2 (s : ByteArray) (i : Nat) (hi : i < s.size) (hz : s.size ≤ 140737488355328) (c m1 m2 m3 : Int) (hc : (s[i]).toNat = c) (h1 : moreZ s.data.toList (i + 1) = m1) (hc2 : 192 ≤ c ∧ c < 224) (w : World) :
    Calls Tryd.prog 52 #[.string s, .int .i64 i] w (AtPost (atZ c m1 m2 m3) w) := by
  have b1 := moreZ_bd s.data.toList (i + 1)
  rw [h1] at b1
  go_enter Tryd.func52, Tryd.ntmps52
  go_wp2_with fail
  refine wp_loop_rounds 4 ?_
  rw [rounds_succ]
  go_wp2_with (first | (go_at_call 78; refine (more_any _ _ (by omega) _).mono ?_; rintro e w' ⟨rfl, rfl⟩) | (go_at_call 79; refine (RScalar_any _ _).mono ?_; rintro e w' ⟨rfl, rfl⟩) | (go_at_call 80; refine (RBytes_any (by assumption) _).mono ?_; rintro e w' ⟨rfl, hb⟩))
  all_goals try (rw [rounds_succ]; go_wp2_with (first | (go_at_call 78; refine (more_any _ _ (by omega) _).mono ?_; rintro e w' ⟨rfl, rfl⟩) | (go_at_call 79; refine (RScalar_any _ _).mono ?_; rintro e w' ⟨rfl, rfl⟩) | (go_at_call 80; refine (RBytes_any (by assumption) _).mono ?_; rintro e w' ⟨rfl, hb⟩)))
  all_goals try (rw [rounds_succ]; go_wp2_with (first | (go_at_call 78; refine (more_any _ _ (by omega) _).mono ?_; rintro e w' ⟨rfl, rfl⟩) | (go_at_call 79; refine (RScalar_any _ _).mono ?_; rintro e w' ⟨rfl, rfl⟩) | (go_at_call 80; refine (RBytes_any (by assumption) _).mono ?_; rintro e w' ⟨rfl, hb⟩)))
  all_goals try (rw [rounds_succ]; go_wp2_with (first | (go_at_call 78; refine (more_any _ _ (by omega) _).mono ?_; rintro e w' ⟨rfl, rfl⟩) | (go_at_call 79; refine (RScalar_any _ _).mono ?_; rintro e w' ⟨rfl, rfl⟩) | (go_at_call 80; refine (RBytes_any (by assumption) _).mono ?_; rintro e w' ⟨rfl, hb⟩)))
  all_goals
    go_ret2
    refine at_mk ?_ (by first | exact Below.refl _ _ | assumption)
    unfold atZ chkZ
    repeat' split
    all_goals first | rfl | (exfalso; omega) | (simp_all; done)

theorem At_3 (s : ByteArray) (i : Nat) (hi : i < s.size) (hz : s.size ≤ 140737488355328) (c m1 m2 m3 : Int) (hc : (s[i]).toNat = c) (h1 : moreZ s.data.toList (i + 1) = m1) (h2 : moreZ s.data.toList (i + 2) = m2) (hc2 : 224 ≤ c ∧ c < 240) (w : World) :
    Calls Tryd.prog 52 #[.string s, .int .i64 i] w (AtPost (atZ c m1 m2 m3) w) := by
  have b1 := moreZ_bd s.data.toList (i + 1)
  rw [h1] at b1
  have b2 := moreZ_bd s.data.toList (i + 2)
  rw [h2] at b2
  go_enter Tryd.func52, Tryd.ntmps52
  go_wp2_with fail
  refine wp_loop_rounds 4 ?_
  rw [rounds_succ]
  go_wp2_with (first | (go_at_call 78; refine (more_any _ _ (by omega) _).mono ?_; rintro e w' ⟨rfl, rfl⟩) | (go_at_call 79; refine (RScalar_any _ _).mono ?_; rintro e w' ⟨rfl, rfl⟩) | (go_at_call 80; refine (RBytes_any (by assumption) _).mono ?_; rintro e w' ⟨rfl, hb⟩))
  all_goals try (rw [rounds_succ]; go_wp2_with (first | (go_at_call 78; refine (more_any _ _ (by omega) _).mono ?_; rintro e w' ⟨rfl, rfl⟩) | (go_at_call 79; refine (RScalar_any _ _).mono ?_; rintro e w' ⟨rfl, rfl⟩) | (go_at_call 80; refine (RBytes_any (by assumption) _).mono ?_; rintro e w' ⟨rfl, hb⟩)))
  all_goals try (rw [rounds_succ]; go_wp2_with (first | (go_at_call 78; refine (more_any _ _ (by omega) _).mono ?_; rintro e w' ⟨rfl, rfl⟩) | (go_at_call 79; refine (RScalar_any _ _).mono ?_; rintro e w' ⟨rfl, rfl⟩) | (go_at_call 80; refine (RBytes_any (by assumption) _).mono ?_; rintro e w' ⟨rfl, hb⟩)))
  all_goals try (rw [rounds_succ]; go_wp2_with (first | (go_at_call 78; refine (more_any _ _ (by omega) _).mono ?_; rintro e w' ⟨rfl, rfl⟩) | (go_at_call 79; refine (RScalar_any _ _).mono ?_; rintro e w' ⟨rfl, rfl⟩) | (go_at_call 80; refine (RBytes_any (by assumption) _).mono ?_; rintro e w' ⟨rfl, hb⟩)))
  all_goals
    go_ret2
    refine at_mk ?_ (by first | exact Below.refl _ _ | assumption)
    unfold atZ chkZ
    repeat' split
    all_goals first | rfl | (exfalso; omega) | (simp_all; done)

set_option maxHeartbeats 1000000 in
theorem At_4 (s : ByteArray) (i : Nat) (hi : i < s.size) (hz : s.size ≤ 140737488355328) (c m1 m2 m3 : Int) (hc : (s[i]).toNat = c) (h1 : moreZ s.data.toList (i + 1) = m1) (h2 : moreZ s.data.toList (i + 2) = m2) (h3 : moreZ s.data.toList (i + 3) = m3) (hc2 : 240 ≤ c ∧ c < 248) (w : World) :
    Calls Tryd.prog 52 #[.string s, .int .i64 i] w (AtPost (atZ c m1 m2 m3) w) := by
  have b1 := moreZ_bd s.data.toList (i + 1)
  rw [h1] at b1
  have b2 := moreZ_bd s.data.toList (i + 2)
  rw [h2] at b2
  have b3 := moreZ_bd s.data.toList (i + 3)
  rw [h3] at b3
  go_enter Tryd.func52, Tryd.ntmps52
  go_wp2_with fail
  refine wp_loop_rounds 4 ?_
  rw [rounds_succ]
  go_wp2_with (first | (go_at_call 78; refine (more_any _ _ (by omega) _).mono ?_; rintro e w' ⟨rfl, rfl⟩) | (go_at_call 79; refine (RScalar_any _ _).mono ?_; rintro e w' ⟨rfl, rfl⟩) | (go_at_call 80; refine (RBytes_any (by assumption) _).mono ?_; rintro e w' ⟨rfl, hb⟩))
  all_goals try (rw [rounds_succ]; go_wp2_with (first | (go_at_call 78; refine (more_any _ _ (by omega) _).mono ?_; rintro e w' ⟨rfl, rfl⟩) | (go_at_call 79; refine (RScalar_any _ _).mono ?_; rintro e w' ⟨rfl, rfl⟩) | (go_at_call 80; refine (RBytes_any (by assumption) _).mono ?_; rintro e w' ⟨rfl, hb⟩)))
  all_goals try (rw [rounds_succ]; go_wp2_with (first | (go_at_call 78; refine (more_any _ _ (by omega) _).mono ?_; rintro e w' ⟨rfl, rfl⟩) | (go_at_call 79; refine (RScalar_any _ _).mono ?_; rintro e w' ⟨rfl, rfl⟩) | (go_at_call 80; refine (RBytes_any (by assumption) _).mono ?_; rintro e w' ⟨rfl, hb⟩)))
  all_goals try (rw [rounds_succ]; go_wp2_with (first | (go_at_call 78; refine (more_any _ _ (by omega) _).mono ?_; rintro e w' ⟨rfl, rfl⟩) | (go_at_call 79; refine (RScalar_any _ _).mono ?_; rintro e w' ⟨rfl, rfl⟩) | (go_at_call 80; refine (RBytes_any (by assumption) _).mono ?_; rintro e w' ⟨rfl, hb⟩)))
  all_goals
    go_ret2
    refine at_mk ?_ (by first | exact Below.refl _ _ | assumption)
    unfold atZ chkZ
    repeat' split
    all_goals first | rfl | (exfalso; omega) | (simp_all; done)

theorem At_0 (s : ByteArray) (i : Nat) (hi : i < s.size) (c m1 m2 m3 : Int) (hc : (s[i]).toNat = c) (hc2 : c < 192 ∨ 248 ≤ c) (w : World) :
    Calls Tryd.prog 52 #[.string s, .int .i64 i] w (AtPost (atZ c m1 m2 m3) w) := by
  have hb : 0 ≤ c ∧ c < 256 := by have := (s[i]).toNat_lt; omega
  go_enter Tryd.func52, Tryd.ntmps52
  go_wp2_with fail
  all_goals
    go_ret2
    refine at_mk ?_ (Below.refl _ _)
    unfold atZ
    repeat' split
    all_goals first | rfl | (exfalso; omega)

theorem At_any (s : ByteArray) (i : Nat) (hi : i < s.size) (hz : s.size ≤ 140737488355328) (w : World) :
    Calls Tryd.prog 52 #[.string s, .int .i64 i] w (AtPost (atZ (s[i]).toNat (moreZ s.data.toList (i + 1)) (moreZ s.data.toList (i + 2)) (moreZ s.data.toList (i + 3))) w) := by
  by_cases c2 : 192 ≤ ((s[i]).toNat : Int) ∧ ((s[i]).toNat : Int) < 224
  · exact At_2 s i hi hz _ _ _ _ rfl rfl c2 w
  by_cases c3 : 224 ≤ ((s[i]).toNat : Int) ∧ ((s[i]).toNat : Int) < 240
  · exact At_3 s i hi hz _ _ _ _ rfl rfl rfl c3 w
  by_cases c4 : 240 ≤ ((s[i]).toNat : Int) ∧ ((s[i]).toNat : Int) < 248
  · exact At_4 s i hi hz _ _ _ _ rfl rfl rfl rfl c4 w
  · exact At_0 s i hi _ _ _ _ rfl (by omega) w
end Go.Proofs.YtpnjandlpbjddabDoor

/- The document's sign at a place is the sign that is decoded there. Plain lists. -/
namespace Go.Proofs.YtpnjandlpbjddabDoor
open Go Go.RowKit

theorem moreZ_drop (l : List UInt8) (i k : Nat) : moreZ l (i + k) = moreZ (l.drop i) k := by
  unfold moreZ
  rw [List.length_drop]
  have : (l.drop i).getD k 0 = l.getD (i + k) 0 := by simp [List.getD, List.getElem?_drop]
  rw [this]
  have e : (l.length ≤ i + k) ↔ (l.length - i ≤ k) := by omega
  simp only [e]

/-- The head of a list as At sees it. -/
def atL (d : List UInt8) : Int × Int := atZ (d.getD 0 0).toNat (moreZ d 1) (moreZ d 2) (moreZ d 3)

theorem moreZ_cons (b : UInt8) (l : List UInt8) (k : Nat) : moreZ (b :: l) (k + 1) = moreZ l k := by
  unfold moreZ
  rw [List.length_cons, List.getD_cons_succ]
  have e : (l.length + 1 ≤ k + 1) ↔ (l.length ≤ k) := by omega
  simp only [e]
theorem moreZ_zero (b : UInt8) (l : List UInt8) (h0 : 128 ≤ b.toNat) (h1 : b.toNat ≤ 191) : moreZ (b :: l) 0 = (b.toNat : Int) - 128 := by
  unfold moreZ
  rw [List.length_cons, List.getD_cons_zero, if_neg (by omega), if_neg (by omega)]
theorem moreZ_some {l : List UInt8} {k : Nat} (h : 0 ≤ moreZ l k) : k < l.length ∧ 128 ≤ (l.getD k 0).toNat ∧ (l.getD k 0).toNat ≤ 191 ∧ moreZ l k = (l.getD k 0).toNat - 128 := by
  revert h
  unfold moreZ
  split
  · intro h; omega
  · split
    · intro h; omega
    · intro _; omega

theorem atL_enc {p : Int} (h : scalarB p = true) (t : List UInt8) : atL (Lib.encodeRune p ++ t) = (p, ((Lib.encodeRune p).length : Int)) := by
  rcases four_cases h with ⟨h0, h1⟩ | ⟨h0, h1⟩ | h3 | ⟨h0, h1⟩
  · rw [enc_one h0 h1]
    simp only [atL, List.cons_append, List.nil_append, List.getD_cons_zero, toNat_u8 p h0 (by omega), List.length_cons, List.length_nil]
    unfold atZ
    rw [if_pos (by omega)]
    exact Prod.ext (by simp only; omega) rfl
  · have hl := congrArg List.length (enc_two h0 h1)
    simp only [List.length_cons, List.length_nil] at hl
    rw [hl, enc_two h0 h1]
    have e0 := toNat_u8 (192 + p / 64) (by omega) (by omega)
    have e1 := toNat_u8 (128 + p % 64) (by omega) (by omega)
    simp only [atL, List.cons_append, List.nil_append, List.getD_cons_zero]
    rw [show moreZ ((192 + p / 64).toNat.toUInt8 :: (128 + p % 64).toNat.toUInt8 :: t) 1 = p % 64 from by
      rw [show (1 : Nat) = 0 + 1 from rfl, moreZ_cons, moreZ_zero _ _ (by omega) (by omega)]; omega]
    rw [e0]
    unfold atZ
    rw [if_neg (by omega), if_pos (by omega), if_neg (by omega)]
    have : ((((192 + p / 64).toNat : Nat) : Int) - 192) * 64 + p % 64 = p := by omega
    rw [this]
    unfold chkZ
    rw [if_pos ⟨h, by rw [hl]; rfl⟩]
    rfl
  · have hl := congrArg List.length (enc_three h3)
    simp only [List.length_cons, List.length_nil] at hl
    rw [hl, enc_three h3]
    have e0 := toNat_u8 (224 + p / 4096) (by omega) (by omega)
    have e1 := toNat_u8 (128 + p / 64 % 64) (by omega) (by omega)
    have e2 := toNat_u8 (128 + p % 64) (by omega) (by omega)
    simp only [atL, List.cons_append, List.nil_append, List.getD_cons_zero]
    rw [show moreZ ((224 + p / 4096).toNat.toUInt8 :: (128 + p / 64 % 64).toNat.toUInt8 :: (128 + p % 64).toNat.toUInt8 :: t) 1 = p / 64 % 64 from by
      rw [show (1 : Nat) = 0 + 1 from rfl, moreZ_cons, moreZ_zero _ _ (by omega) (by omega)]; omega]
    rw [show moreZ ((224 + p / 4096).toNat.toUInt8 :: (128 + p / 64 % 64).toNat.toUInt8 :: (128 + p % 64).toNat.toUInt8 :: t) 2 = p % 64 from by
      rw [show (2 : Nat) = 0 + 1 + 1 from rfl, moreZ_cons, moreZ_cons, moreZ_zero _ _ (by omega) (by omega)]; omega]
    rw [e0]
    unfold atZ
    rw [if_neg (by omega), if_neg (by omega), if_pos (by omega), if_neg (by omega), if_neg (by omega)]
    have : ((((224 + p / 4096).toNat : Nat) : Int) - 224) * 64 + p / 64 % 64 = p / 64 := by omega
    rw [this]
    have : p / 64 * 64 + p % 64 = p := by omega
    rw [this]
    unfold chkZ
    rw [if_pos ⟨h, by rw [hl]; rfl⟩]
    rfl
  · have hl := congrArg List.length (enc_four h0 h1)
    simp only [List.length_cons, List.length_nil] at hl
    rw [hl, enc_four h0 h1]
    have e0 := toNat_u8 (240 + p / 262144) (by omega) (by omega)
    have e1 := toNat_u8 (128 + p / 4096 % 64) (by omega) (by omega)
    have e2 := toNat_u8 (128 + p / 64 % 64) (by omega) (by omega)
    have e3 := toNat_u8 (128 + p % 64) (by omega) (by omega)
    simp only [atL, List.cons_append, List.nil_append, List.getD_cons_zero]
    rw [show moreZ ((240 + p / 262144).toNat.toUInt8 :: (128 + p / 4096 % 64).toNat.toUInt8 :: (128 + p / 64 % 64).toNat.toUInt8 :: (128 + p % 64).toNat.toUInt8 :: t) 1 = p / 4096 % 64 from by
      rw [show (1 : Nat) = 0 + 1 from rfl, moreZ_cons, moreZ_zero _ _ (by omega) (by omega)]; omega]
    rw [show moreZ ((240 + p / 262144).toNat.toUInt8 :: (128 + p / 4096 % 64).toNat.toUInt8 :: (128 + p / 64 % 64).toNat.toUInt8 :: (128 + p % 64).toNat.toUInt8 :: t) 2 = p / 64 % 64 from by
      rw [show (2 : Nat) = 0 + 1 + 1 from rfl, moreZ_cons, moreZ_cons, moreZ_zero _ _ (by omega) (by omega)]; omega]
    rw [show moreZ ((240 + p / 262144).toNat.toUInt8 :: (128 + p / 4096 % 64).toNat.toUInt8 :: (128 + p / 64 % 64).toNat.toUInt8 :: (128 + p % 64).toNat.toUInt8 :: t) 3 = p % 64 from by
      rw [show (3 : Nat) = 0 + 1 + 1 + 1 from rfl, moreZ_cons, moreZ_cons, moreZ_cons, moreZ_zero _ _ (by omega) (by omega)]; omega]
    rw [e0]
    unfold atZ
    rw [if_neg (by omega), if_neg (by omega), if_neg (by omega), if_pos (by omega), if_neg (by omega), if_neg (by omega), if_neg (by omega)]
    have : ((((240 + p / 262144).toNat : Nat) : Int) - 240) * 64 + p / 4096 % 64 = p / 4096 := by omega
    rw [this]
    have : p / 4096 * 64 + p / 64 % 64 = p / 64 := by omega
    rw [this]
    have : p / 64 * 64 + p % 64 = p := by omega
    rw [this]
    unfold chkZ
    rw [if_pos ⟨h, by rw [hl]; rfl⟩]
    rfl

theorem chkZ_or (n p : Int) : chkZ n p = (0, 0) ∨ (scalarB p = true ∧ ((Lib.encodeRune p).length : Int) = n) := by
  unfold chkZ
  split
  · rename_i h; exact .inr h
  · exact .inl rfl
theorem len_two {p : Int} (h : scalarB p = true) (hl : ((Lib.encodeRune p).length : Int) = 2) : 128 ≤ p ∧ p ≤ 2047 := by
  rcases four_cases h with ⟨h0, h1⟩ | h2 | h3 | ⟨h0, h1⟩
  · rw [enc_one h0 h1] at hl; simp at hl
  · exact h2
  · rw [enc_three h3] at hl; simp at hl
  · rw [enc_four h0 h1] at hl; simp at hl
theorem len_three {p : Int} (h : scalarB p = true) (hl : ((Lib.encodeRune p).length : Int) = 3) : (2048 ≤ p ∧ p < 55296) ∨ (57343 < p ∧ p ≤ 65535) := by
  rcases four_cases h with ⟨h0, h1⟩ | ⟨h0, h1⟩ | h3 | ⟨h0, h1⟩
  · rw [enc_one h0 h1] at hl; simp at hl
  · rw [enc_two h0 h1] at hl; simp at hl
  · exact h3
  · rw [enc_four h0 h1] at hl; simp at hl
theorem len_four {p : Int} (h : scalarB p = true) (hl : ((Lib.encodeRune p).length : Int) = 4) : 65536 ≤ p ∧ p ≤ 1114111 := by
  rcases four_cases h with ⟨h0, h1⟩ | ⟨h0, h1⟩ | h3 | h4
  · rw [enc_one h0 h1] at hl; simp at hl
  · rw [enc_two h0 h1] at hl; simp at hl
  · rw [enc_three h3] at hl; simp at hl
  · exact h4

theorem atL_or (d : List UInt8) (hd : d ≠ []) : atL d = (0, 0) ∨ ∃ p t, d = Lib.encodeRune p ++ t ∧ scalarB p = true := by
  match d, hd with
  | b0 :: r, _ =>
    have k0 := b0.toNat_lt
    unfold atL
    rw [List.getD_cons_zero, show (1 : Nat) = 0 + 1 from rfl, moreZ_cons, show (2 : Nat) = 1 + 1 from rfl, moreZ_cons, show (3 : Nat) = 2 + 1 from rfl, moreZ_cons]
    unfold atZ
    by_cases c0 : ((b0.toNat : Nat) : Int) < 128
    · refine .inr ⟨b0.toNat, r, ?_, by rw [scalarB_iff]; omega⟩
      rw [enc_one (by omega) (by omega)]
      simp only [List.cons_append, List.nil_append, List.cons.injEq, and_true]
      exact (u8_eq rfl).symm
    rw [if_neg c0]
    by_cases c1 : 192 ≤ ((b0.toNat : Nat) : Int) ∧ ((b0.toNat : Nat) : Int) < 224
    · rw [if_pos c1]
      by_cases m1 : moreZ r 0 < 0
      · rw [if_pos m1]; exact .inl rfl
      rw [if_neg m1]
      obtain ⟨l1, a1, z1, e1⟩ := moreZ_some (l := r) (k := 0) (by omega)
      match r, l1 with
      | b1 :: r, _ =>
        have k1 := b1.toNat_lt
        rw [List.getD_cons_zero] at a1 z1 e1
        rw [e1]
        rcases chkZ_or 2 (((b0.toNat : Int) - 192) * 64 + ((b1.toNat : Int) - 128)) with h | ⟨h, hl⟩
        · exact .inl h
        · have hp := len_two h hl
          refine .inr ⟨_, r, ?_, h⟩
          rw [enc_two hp.1 hp.2]
          simp only [List.cons_append, List.nil_append, List.cons.injEq, and_true]
          exact ⟨(u8_eq (by omega)).symm, (u8_eq (by omega)).symm⟩
    rw [if_neg c1]
    by_cases c2 : 224 ≤ ((b0.toNat : Nat) : Int) ∧ ((b0.toNat : Nat) : Int) < 240
    · rw [if_pos c2]
      by_cases m1 : moreZ r 0 < 0
      · rw [if_pos m1]; exact .inl rfl
      rw [if_neg m1]
      by_cases m2 : moreZ r 1 < 0
      · rw [if_pos m2]; exact .inl rfl
      rw [if_neg m2]
      obtain ⟨_, a1, z1, e1⟩ := moreZ_some (l := r) (k := 0) (by omega)
      obtain ⟨l2, a2, z2, e2⟩ := moreZ_some (l := r) (k := 1) (by omega)
      match r, l2 with
      | b1 :: b2 :: r, _ =>
        have k1 := b1.toNat_lt
        have k2 := b2.toNat_lt
        rw [List.getD_cons_zero] at a1 z1 e1
        rw [List.getD_cons_succ, List.getD_cons_zero] at a2 z2 e2
        rw [e1, e2]
        rcases chkZ_or 3 ((((b0.toNat : Int) - 224) * 64 + ((b1.toNat : Int) - 128)) * 64 + ((b2.toNat : Int) - 128)) with h | ⟨h, hl⟩
        · exact .inl h
        · have hp := len_three h hl
          refine .inr ⟨_, r, ?_, h⟩
          rw [enc_three hp]
          simp only [List.cons_append, List.nil_append, List.cons.injEq, and_true]
          exact ⟨(u8_eq (by omega)).symm, (u8_eq (by omega)).symm, (u8_eq (by omega)).symm⟩
    rw [if_neg c2]
    by_cases c3 : 240 ≤ ((b0.toNat : Nat) : Int) ∧ ((b0.toNat : Nat) : Int) < 248
    · rw [if_pos c3]
      by_cases m1 : moreZ r 0 < 0
      · rw [if_pos m1]; exact .inl rfl
      rw [if_neg m1]
      by_cases m2 : moreZ r 1 < 0
      · rw [if_pos m2]; exact .inl rfl
      rw [if_neg m2]
      by_cases m3 : moreZ r 2 < 0
      · rw [if_pos m3]; exact .inl rfl
      rw [if_neg m3]
      obtain ⟨_, a1, z1, e1⟩ := moreZ_some (l := r) (k := 0) (by omega)
      obtain ⟨_, a2, z2, e2⟩ := moreZ_some (l := r) (k := 1) (by omega)
      obtain ⟨l3, a3, z3, e3⟩ := moreZ_some (l := r) (k := 2) (by omega)
      match r, l3 with
      | b1 :: b2 :: b3 :: r, _ =>
        have k1 := b1.toNat_lt
        have k2 := b2.toNat_lt
        have k3 := b3.toNat_lt
        rw [List.getD_cons_zero] at a1 z1 e1
        rw [List.getD_cons_succ, List.getD_cons_zero] at a2 z2 e2
        rw [List.getD_cons_succ, List.getD_cons_succ, List.getD_cons_zero] at a3 z3 e3
        rw [e1, e2, e3]
        rcases chkZ_or 4 (((((b0.toNat : Int) - 240) * 64 + ((b1.toNat : Int) - 128)) * 64 + ((b2.toNat : Int) - 128)) * 64 + ((b3.toNat : Int) - 128)) with h | ⟨h, hl⟩
        · exact .inl h
        · have hp := len_four h hl
          refine .inr ⟨_, r, ?_, h⟩
          rw [enc_four hp.1 hp.2]
          simp only [List.cons_append, List.nil_append, List.cons.injEq, and_true]
          exact ⟨(u8_eq (by omega)).symm, (u8_eq (by omega)).symm, (u8_eq (by omega)).symm, (u8_eq (by omega)).symm⟩
    rw [if_neg c3]
    exact .inl rfl

theorem atL_err {d : List UInt8} (hd : d ≠ []) (h : errD (decL d)) : atL d = (0, 0) := by
  rcases atL_or d hd with h1 | ⟨p, t, h1, h2⟩
  · exact h1
  · subst h1; exact absurd h (not_err_enc h2 t)

theorem RAt_any (s : ByteArray) (i : Nat) (hi : i < s.size) (hz : s.size ≤ 140737488355328) (w : World) :
    Calls Tryd.prog 52 #[.string s, .int .i64 i] w (AtPost (atL (s.data.toList.drop i)) w) := by
  have h := At_any s i hi hz w
  rw [moreZ_drop, moreZ_drop, moreZ_drop] at h
  have e : (s[i]) = (s.data.toList.drop i).getD 0 0 := by
    rw [← getD_size s i hi]; simp [List.getD, List.getElem?_drop]
  rw [e] at h
  exact h
end Go.Proofs.YtpnjandlpbjddabDoor

/- Contracts: point.Valid, point.Plain; the document's Points and Text; Same, Fault of the law's package. -/
namespace Go.Proofs.YtpnjandlpbjddabDoor
open Go Go.RowKit
set_option maxRecDepth 100000

def plainB (l : List UInt8) : Bool := l.all fun b => b.toNat < 128
def PlainRel (s : ByteArray) (i : Value) : Prop := ∃ k : Nat, k ≤ s.size ∧ i = .int .i64 k ∧ plainB (s.data.toList.take k) = true
theorem take_succ_getD (s : ByteArray) (k : Nat) (h : k < s.size) : s.data.toList.take (k + 1) = s.data.toList.take k ++ [s[k]] := by
  rw [List.take_succ_eq_append_getElem (by simpa using h)]; rfl
theorem plainB_snoc (a : List UInt8) (b : UInt8) : plainB (a ++ [b]) = (plainB a && decide (b.toNat < 128)) := by simp [plainB]
theorem plainB_take (l : List UInt8) (k : Nat) (h : plainB (l.take k) = false) : plainB l = false := by
  cases hp : plainB l with
  | false => rfl
  | true =>
    rw [← h]
    unfold plainB at hp ⊢
    rw [List.all_eq_true] at hp
    exact (List.all_eq_true.2 fun x hx => hp x (List.mem_of_mem_take hx)).symm
def SameRel (n : Nat) (w0 : World) (i : Value) (wr : World) : Prop := ∃ k : Nat, k ≤ n ∧ i = .int .i64 k ∧ Below w0.heap.size w0 wr
theorem LFault_neg (a : Int) (h : a < 0) (w : World) :
    Calls Tryd.prog 11 #[.int .i64 a] w fun e w' => e = .returned (.agg #[.int .i64 0, .int .i64 0]) ∧ Below w.heap.size w w' := by
  go_enter Tryd.func11, Tryd.ntmps11
  go_wp2
  refine bodyPost_ret (v := .agg #[.int .i64 0, .int .i64 0]) (by simp [results, Tryd.results11, go_sem]) rfl ⟨rfl, ?_⟩
  repeat (first | exact Below.refl _ _ | refine Below.alloc ?_ (by simp) _ | refine Below.setCell ?_ (by simp) _)
theorem LFault_pos (a : Int) (h : 0 ≤ a) (w : World) :
    Calls Tryd.prog 11 #[.int .i64 a] w fun e w' => e = .returned (.agg #[.int .i64 2, .int .i64 a]) ∧ Below w.heap.size w w' := by
  go_enter Tryd.func11, Tryd.ntmps11
  go_wp2
  refine bodyPost_ret (v := .agg #[.int .i64 2, .int .i64 a]) (by simp [results, Tryd.results11, go_sem]) rfl ⟨rfl, ?_⟩
  repeat (first | exact Below.refl _ _ | refine Below.alloc ?_ (by simp) _ | refine Below.setCell ?_ (by simp) _)

theorem mk_append (a b : List UInt8) : (⟨a.toArray⟩ : ByteArray) ++ ⟨b.toArray⟩ = ⟨(a ++ b).toArray⟩ := by
  apply ByteArray.ext
  simp
def RTextRel (ps : List Int) (w0 : World) (s i : Value) (wr : World) : Prop := ∃ k : Nat, k ≤ ps.length ∧ i = .int .i64 k ∧ s = .string ⟨(textL (ps.take k)).toArray⟩ ∧ Below w0.heap.size w0 wr
end Go.Proofs.YtpnjandlpbjddabDoor

/- Contract: the document's Points. -/
namespace Go.Proofs.YtpnjandlpbjddabDoor
open Go Go.RowKit
set_option maxRecDepth 100000

theorem RAt_step {s : ByteArray} {ps : List Int} {k i n : Nat} {p : Int} (h : Step s ps k i p n) (hi : i < s.size) (hz : s.size ≤ 140737488355328) (w : World) :
    Calls Tryd.prog 52 #[.string s, .int .i64 i] w fun e w' => e = .returned (.tuple #[.int .i32 p, .int .i64 n]) ∧ Below w.heap.size w w' := by
  obtain ⟨⟨t, ht⟩, hn, _, hs⟩ := h
  have h2 := RAt_any s i hi hz w
  rw [ht, atL_enc hs, ← hn] at h2
  exact h2
theorem RAt_bad (s : ByteArray) (i : Nat) (hi : i < s.size) (hd : errD (decL (s.data.toList.drop i))) (hz : s.size ≤ 140737488355328) (w : World) :
    Calls Tryd.prog 52 #[.string s, .int .i64 i] w fun e w' => e = .returned (.tuple #[.int .i32 0, .int .i64 0]) ∧ Below w.heap.size w w' := by
  have h2 := RAt_any s i hi hz w
  have hne : s.data.toList.drop i ≠ [] := by
    intro h
    have := congrArg List.length h
    simp at this
    omega
  rw [atL_err hne hd] at h2
  exact h2

def RPointsRel (ps : List Int) (w0 : World) (v i : Value) (wr : World) : Prop :=
  ∃ k j : Nat, Run ps k j ∧ i = .int .i64 j ∧ wr.ownsRow w0.heap.size 21 1 v k ((ps.take k).map (Value.int .i32)) ∧ Below w0.heap.size w0 wr

end Go.Proofs.YtpnjandlpbjddabDoor

/- Contracts of wansung.choose, Place, Extra, for every number; condition: the table of math/bits lies as laid. -/
set_option maxRecDepth 100000
set_option maxHeartbeats 1000000
namespace Go.Proofs.YtpnjandlpbjddabDoor
open Go Go.RowKit

def DB (w : World) : Prop := TabAt 3 Lib.deBruijn32tab w
theorem DB_below {w w' : World} {B : Nat} (h : DB w) (hb : Below B w w') (hB : w.heap.size ≤ B) : DB w' := fun j hj =>
  (hb.cell (p := ⟨_, j, none⟩) (Nat.lt_of_lt_of_le (World.block_lt_of_cell? _ _ (h j hj)) hB)).trans (h j hj)
def ChPost (k : Nat) (b : Bool) (w0 : World) (e : Ending) (w' : World) : Prop := ∃ p, e = .returned (.tuple #[.int .i32 p, .bool (p != 0)]) ∧ KthIs k b p ∧ Below w0.heap.size w0 w'
theorem Choose_neg (k : Int) (hk : k < 0) (b : Bool) (w : World) :
    Calls Tryd.prog 105 #[.int .i64 k, .bool b] w fun e w' => e = .returned (.tuple #[.int .i32 0, .bool false]) ∧ Below w.heap.size w w' := by
  go_enter Tryd.func105, Tryd.ntmps105
  go_wp2_with fail
  go_ret2
  exact ⟨rfl, Below.refl _ _⟩
theorem bits_xor_u32_nat (a b : Nat) (ha : a < 4294967296) (hb : b < 4294967296) : bits .xor .u32 (a : Int) (b : Int) = ((a ^^^ b : Nat) : Int) := by
  have hx : a ^^^ b < 2 ^ 32 := Nat.xor_lt_two_pow (by omega) (by omega)
  have h1 : (BitVec.ofInt 32 (a : Int)).toNat = a := by
    rw [BitVec.ofInt_natCast, BitVec.toNat_ofNat]; exact Nat.mod_eq_of_lt (by omega)
  have h2 : (BitVec.ofInt 32 (b : Int)).toNat = b := by
    rw [BitVec.ofInt_natCast, BitVec.toNat_ofNat]; exact Nat.mod_eq_of_lt (by omega)
  show IntKind.u32.wrap ((BitVec.ofInt 32 (a : Int) ^^^ BitVec.ofInt 32 (b : Int)).toNat : Int) = _
  rw [BitVec.toNat_xor, h1, h2, wrap_u32']
  omega
theorem xor28 (x : Nat) (hx : x < 2 ^ 28) : bits .xor .u32 (x : Int) 268435455 = ((comp x : Nat) : Int) := by
  rw [← comp_xor x hx]
  exact bits_xor_u32_nat x 268435455 (by omega) (by omega)
theorem grp_in (g : Nat) : gr g = grp true g := rfl
theorem grp_out (g : Nat) : bits .xor .u32 (gr g : Int) 268435455 = ((grp false g : Nat) : Int) := xor28 _ (gr_lt g)
theorem ones_le28 (x : Nat) (h : x < 2 ^ 28) : Lib.onesCount x ≤ 28 := by
  have h3 := comp_ones x 28 h (Nat.le_refl _)
  rw [Nat.mod_eq_of_lt h] at h3
  exact Nat.le.intro (by rw [Nat.add_comm]; exact h3)
theorem Tz_any (x : Nat) (hx : x < 4294967296) (w : World) (hD : DB w) :
    Calls Tryd.prog 121 #[.int .u32 x] w fun e w' => e = .returned (.int .i64 (Lib.ctz 32 x)) ∧ Below w.heap.size w w' :=
  (Any7.bits_TrailingZeros32 Tryd.lays7n28 x hx w fun _ => hD).mono fun _ _ h => ⟨h.1, by rw [h.2]; exact Below.refl _ _⟩
theorem and_dec (n : Nat) (hn : n < 2 ^ 28) : bits .and .u32 (n : Int) (((n : Int) - 1) % 4294967296) = ((n &&& (n - 1) : Nat) : Int) := by
  by_cases h0 : n = 0
  · subst h0
    decide
  · rw [show ((n : Int) - 1) % 4294967296 = ((n - 1 : Nat) : Int) by omega, bits_and_u32_nat n _ (by omega) (by omega)]
def ChRel (k : Nat) (b : Bool) (w0 : World) (kv g : Value) (wr : World) : Prop := ∃ m : Nat, m ≤ 399 ∧ g = .int .i64 m ∧ cnt b (28 * m) ≤ k ∧ kv = .int .i64 ((k - cnt b (28 * m) : Nat) : Int) ∧ Below w0.heap.size w0 wr
def ChIn (x k : Nat) (kv n : Value) : Prop := ∃ j : Nat, j ≤ k ∧ kv = .int .i64 ((k - j : Nat) : Int) ∧ n = .int .u32 ((clr x j : Nat) : Int)
theorem Choose_any (k : Nat) (hk : k ≤ 9223372036854775807) (b : Bool) (w : World) (hD : DB w) :
    Calls Tryd.prog 105 #[.int .i64 k, .bool b] w (ChPost k b w) := by
  generalize hP : ChPost k b w = P at *
  go_enter Tryd.func105, Tryd.ntmps105
  go_wp2_with fail
  go_loopw [0, 6] (fun kv g wr => ChRel k b w kv g wr) (fun _ g _ => 399 - (intOf g).toNat)
  case atStart => exact ⟨0, by omega, rfl, by simp [cnt], by simp [cnt], Below.refl _ _⟩
  case round =>
    obtain ⟨m, hm, rfl, hlo, rfl, hb⟩ := hrel
    by_cases hlt : m < 399
    · have hgrp := fun w => Group_any m hlt w
      have hnx := cnt_grp_next b m
      have hpk := pick b m k hlt hlo
      have hx := grp_lt b m
      have ho28 := ones_le28 _ hx
      have hgi := grp_in m
      have hgo := grp_out m
      have hones := fun w => Ones_any (grp b m) (by omega) w
      have hTz := fun j w => Tz_any (clr (grp b m) j) (Nat.lt_trans (clr_lt j _ hx) (by decide)) w
      have hlt28 := fun j => clr_lt j _ hx
      have hsc := fun j => clr_succ j (grp b m)
      generalize hon : Lib.onesCount (grp b m) = o at *
      have hr : k - cnt b (28 * m) ≤ 9223372036854775807 := by omega
      have hnx2 : k - cnt b (28 * m) ≥ o → k - cnt b (28 * (m + 1)) = k - cnt b (28 * m) - o ∧ cnt b (28 * (m + 1)) ≤ k := by omega
      clear hnx hon
      generalize k - cnt b (28 * m) = r at *
      by_cases hc : o ≤ r
      · have Hn := Lib.hid (hnx2 hc)
        clear hnx2 hpk hTz hlt28 hsc
        cases b
        · generalize grp false m = x at *
          clear hgi
          go_wp2_with (first | (go_at_call 107; refine (hgrp _).mono ?_; rintro e w1 ⟨rfl, hb1⟩) | (go_at_call 106; refine (hones _).mono ?_; rintro e w2 ⟨rfl, hb2⟩))
          go_roundw
          case rel => exact ⟨m + 1, by omega, by go_num, Hn.out.2, by rw [Hn.out.1, show ((r - o : Nat) : Int) = (r : Int) - o by omega], (hb.trans (hb1.mono hb.size)).trans (hb2.mono (Nat.le_trans hb.size hb1.size))⟩
          case measure => simp [intOf]; omega
        · rw [← hgi] at hones
          clear hgi hgo
          go_wp2_with (first | (go_at_call 107; refine (hgrp _).mono ?_; rintro e w1 ⟨rfl, hb1⟩) | (go_at_call 106; refine (hones _).mono ?_; rintro e w2 ⟨rfl, hb2⟩))
          go_roundw
          case rel => exact ⟨m + 1, by omega, by go_num, Hn.out.2, by rw [Hn.out.1, show ((r - o : Nat) : Int) = (r : Int) - o by omega], (hb.trans (hb1.mono hb.size)).trans (hb2.mono (Nat.le_trans hb.size hb1.size))⟩
          case measure => simp [intOf]; omega
      · have Hpk := Lib.hid (hpk (by omega))
        clear hnx2 hpk
        cases b
        · generalize grp false m = x at *
          clear hgi
          go_wp2_with (first | (go_at_call 107; refine (hgrp _).mono ?_; rintro e w1 ⟨rfl, hb1⟩) | (go_at_call 106; refine (hones _).mono ?_; rintro e w2 ⟨rfl, hb2⟩))
          have hB := (hb.trans (hb1.mono hb.size)).trans (hb2.mono (Nat.le_trans hb.size hb1.size))
          have hD2 := DB_below hD hB (Nat.le_refl _)
          clear hgrp hones hb1 hb2 hb hD
          go_loop [0, 7] (fun kv n => ChIn x r kv n) (fun kv _ => (intOf kv).toNat)
          case atStart => exact ⟨0, by omega, by simp, rfl⟩
          case round =>
            obtain ⟨j, hj, rfl, rfl⟩ := hrel
            by_cases hjr : j < r
            · have hd := and_dec (clr x j) (hlt28 j)
              have hs := Lib.hid (hsc j)
              generalize clr x j = y at *
              generalize hrj : r - j = q at *
              clear hsc hTz hlt28 Hpk
              have hq : 0 < q := by omega
              have hq2 : q ≤ 1000000 := by omega
              go_wp2_with fail
              go_round
              case rel => exact ⟨j + 1, by omega, by rw [show ((r - (j + 1) : Nat) : Int) = (q : Int) - 1 by omega], by rw [hs.out]⟩
              case measure => simp [intOf]; omega
            · have hje : j = r := by omega
              subst hje
              have htz := hTz j
              have hct : Lib.ctz 32 (clr x j) < 28 := Hpk.out.2
              have Hp := Lib.hid Hpk.out.1
              clear Hpk hsc hTz hlt28 hjr
              rw [Nat.sub_self]
              generalize clr x j = y at *
              generalize Lib.ctz 32 y = z at *
              go_wp2_with (first | (go_at_call 121; refine (htz _ hD2).mono ?_; rintro e w3 ⟨rfl, hb3⟩))
              have hne : ((44032 + 28 * (m : Int) + (z : Int)) != 0) = true := by simp; omega
              have he : (44032 + (m : Int) * 28 + (z : Int)) = 44032 + 28 * (m : Int) + (z : Int) := by omega
              show P (.returned (.tuple #[.int .i32 (44032 + (m : Int) * 28 + (z : Int)), .bool true])) w3
              rw [← hP, he]
              exact ⟨_, by rw [hne], Hp.out, hB.trans (hb3.mono hB.size)⟩
        · rw [← hgi] at hones hTz hlt28 hsc Hpk
          clear hgi hgo
          generalize gr m = x at *
          go_wp2_with (first | (go_at_call 107; refine (hgrp _).mono ?_; rintro e w1 ⟨rfl, hb1⟩) | (go_at_call 106; refine (hones _).mono ?_; rintro e w2 ⟨rfl, hb2⟩))
          have hB := (hb.trans (hb1.mono hb.size)).trans (hb2.mono (Nat.le_trans hb.size hb1.size))
          have hD2 := DB_below hD hB (Nat.le_refl _)
          clear hgrp hones hb1 hb2 hb hD
          go_loop [0, 7] (fun kv n => ChIn x r kv n) (fun kv _ => (intOf kv).toNat)
          case atStart => exact ⟨0, by omega, by simp, rfl⟩
          case round =>
            obtain ⟨j, hj, rfl, rfl⟩ := hrel
            by_cases hjr : j < r
            · have hd := and_dec (clr x j) (hlt28 j)
              have hs := Lib.hid (hsc j)
              generalize clr x j = y at *
              generalize hrj : r - j = q at *
              clear hsc hTz hlt28 Hpk
              have hq : 0 < q := by omega
              have hq2 : q ≤ 1000000 := by omega
              go_wp2_with fail
              go_round
              case rel => exact ⟨j + 1, by omega, by rw [show ((r - (j + 1) : Nat) : Int) = (q : Int) - 1 by omega], by rw [hs.out]⟩
              case measure => simp [intOf]; omega
            · have hje : j = r := by omega
              subst hje
              have htz := hTz j
              have hct : Lib.ctz 32 (clr x j) < 28 := Hpk.out.2
              have Hp := Lib.hid Hpk.out.1
              clear Hpk hsc hTz hlt28 hjr
              rw [Nat.sub_self]
              generalize clr x j = y at *
              generalize Lib.ctz 32 y = z at *
              go_wp2_with (first | (go_at_call 121; refine (htz _ hD2).mono ?_; rintro e w3 ⟨rfl, hb3⟩))
              have hne : ((44032 + 28 * (m : Int) + (z : Int)) != 0) = true := by simp; omega
              have he : (44032 + (m : Int) * 28 + (z : Int)) = 44032 + 28 * (m : Int) + (z : Int) := by omega
              show P (.returned (.tuple #[.int .i32 (44032 + (m : Int) * 28 + (z : Int)), .bool true])) w3
              rw [← hP, he]
              exact ⟨_, by rw [hne], Hp.out, hB.trans (hb3.mono hB.size)⟩
    · have hme : m = 399 := by omega
      subst hme
      have Hle := Lib.hid hlo
      clear hlt hlo
      go_wp2_with fail
      show P (.returned (.tuple #[.int .i32 0, .bool false])) wr
      rw [← hP]
      exact ⟨_, rfl, .inr ⟨Hle.out, rfl⟩, hb⟩
end Go.Proofs.YtpnjandlpbjddabDoor

/- Contracts of wansung.at, wansung.find, for every list in base sixteen; condition: the list has at most 100,000 bytes; the cell of the library's MaxLen holds some int. -/
set_option maxRecDepth 100000
set_option maxHeartbeats 1000000
namespace Go.Proofs.YtpnjandlpbjddabDoor
open Go Go.RowKit

theorem i32_or4 {x y : Int} (hy₀ : 0 ≤ y) (hy : y < 16) (hx₀ : 0 ≤ x) (hx : x < 134217728) : bits .or .i32 (x * 16) y = x * 16 + y :=
  bits_join .i32 31 (by decide) (fun n h0 h1 => by simp [IntKind.wrap, IntKind.bits, IntKind.signed]; omega) 4 (x * 16) y (by omega) (by omega) (by omega) hy₀ hy (by omega)

/-- The text s is the list ps in base sixteen. -/
def Hex (s : ByteArray) (ps : List Int) : Prop := s.data.toList = hexL ps ∧ SmallP ps
theorem Hex.size {s : ByteArray} {ps : List Int} (h : Hex s ps) : s.size = 5 * ps.length := by
  rw [← hexL_len, ← h.1]; simp
theorem Hex.digit {s : ByteArray} {ps : List Int} (h : Hex s ps) {k j m : Nat} (hm : m = 5 * k) (hk : k < ps.length) (hj : j < 5) (hi : m + j < s.size) : (cellL (ps.getD k 0))[j]? = some s[m + j] := by
  subst hm
  rw [← hexL_at ps k j hk hj, ← h.1]
  have hl : 5 * k + j < s.data.toList.length := by simpa using hi
  rw [List.getElem?_eq_getElem hl]
  rfl
theorem Digit_any (d : Int) (c : UInt8) (hd : 0 ≤ d ∧ d < 16) (hc : c = hexD d) (w : World) :
    Calls Tryd.prog 67 #[.string ⟨#[48, 49, 50, 51, 52, 53, 54, 55, 56, 57, 65, 66, 67, 68, 69, 70]⟩, .int .u8 (c.toNat : Int)] w fun e w' => e = .returned (.int .i64 d) ∧ w = w' := by
  refine (Tryd.strings_IndexByte _ _ w).mono ?_
  rintro e w' ⟨rfl, rfl⟩
  refine ⟨ret_int ?_, rfl⟩
  have e1 : ((c.toNat : Int)).toNat.toUInt8 = c := u8_eq rfl
  rw [e1, hc]
  exact hexD_index hd.1 hd.2

theorem At_out (s : ByteArray) (ps : List Int) (h : Hex s ps) (k : Int) (hk : k < 0 ∨ ps.length ≤ k) (hs : s.size ≤ 100000) (hkb : -100000 ≤ k ∧ k ≤ 100000) (w : World) :
    Calls Tryd.prog 47 #[.string s, .int .i64 k] w fun e w' => e = .returned (.tuple #[.int .i32 0, .bool false]) ∧ Below w.heap.size w w' := by
  have hsz := h.size
  have hdiv : (s.size : Int) / 5 = ps.length := by omega
  by_cases h0 : k < 0
  · go_enter Tryd.func47, Tryd.ntmps47
    go_wp2_with fail
    go_ret2
    exact ⟨rfl, Below.refl _ _⟩
  · have h1 : (s.size : Int) / 5 ≤ k := by omega
    clear hdiv
    go_enter Tryd.func47, Tryd.ntmps47
    go_wp2_with fail
    go_ret2
    exact ⟨rfl, Below.refl _ _⟩

theorem At_in (s : ByteArray) (ps : List Int) (h : Hex s ps) (k : Nat) (hk : k < ps.length) (hs : s.size ≤ 100000) (w : World) :
    Calls Tryd.prog 47 #[.string s, .int .i64 k] w fun e w' => e = .returned (.tuple #[.int .i32 (ps.getD k 0), .bool true]) ∧ Below w.heap.size w w' := by
  have hsz := h.size
  have hp := h.2 _ (getD_mem hk)
  have d0 := h.digit (j := 0) (m := 5 * k) rfl hk (by omega) (by omega)
  have d1 := h.digit (j := 1) (m := 5 * k) rfl hk (by omega) (by omega)
  have d2 := h.digit (j := 2) (m := 5 * k) rfl hk (by omega) (by omega)
  have d3 := h.digit (j := 3) (m := 5 * k) rfl hk (by omega) (by omega)
  generalize ps.getD k 0 = p at *
  obtain ⟨q0, q1, q2, q3⟩ := cell_digits hp
  simp [cellL] at d0 d1 d2 d3
  have D0 := fun w => Digit_any (p / 4096) s[5 * k] q0 d0.symm w
  have D1 := fun w => Digit_any (p / 256 % 16) s[5 * k + 1] q1 d1.symm w
  have D2 := fun w => Digit_any (p / 16 % 16) s[5 * k + 2] q2 d2.symm w
  have D3 := fun w => Digit_any (p % 16) s[5 * k + 3] q3 d3.symm w
  obtain ⟨q00, q01⟩ := q0
  obtain ⟨q10, q11⟩ := q1
  obtain ⟨q20, q21⟩ := q2
  obtain ⟨q30, q31⟩ := q3
  have hge : ¬ (s.size : Int) / 5 ≤ k := by omega
  have hm' : (k : Int) * 5 = 5 * (k : Int) := by omega
  have hmb : 5 * k + 3 < s.size := by omega
  have hA1 : (5 * (k : Int) + 1).toNat = 5 * k + 1 := by omega
  have hA2 : (5 * (k : Int) + 1 + 1).toNat = 5 * k + 2 := by omega
  have hA3 : (5 * (k : Int) + 1 + 1 + 1).toNat = 5 * k + 3 := by omega
  clear d0 d1 d2 d3 h
  go_enter Tryd.func47, Tryd.ntmps47
  go_wp2_with fail
  refine wp_loop_rounds 5 ?_
  rw [rounds_succ]
  go_wp2_with (first | (go_at_call 67; first | (refine (D0 _).mono ?_; clear D0; rintro e w' ⟨rfl, rfl⟩) | (refine (D1 _).mono ?_; clear D1; rintro e w' ⟨rfl, rfl⟩) | (refine (D2 _).mono ?_; clear D2; rintro e w' ⟨rfl, rfl⟩) | (refine (D3 _).mono ?_; clear D3; rintro e w' ⟨rfl, rfl⟩)))
  rw [rounds_succ]
  go_wp2_with (first | (go_at_call 67; first | (refine (D0 _).mono ?_; clear D0; rintro e w' ⟨rfl, rfl⟩) | (refine (D1 _).mono ?_; clear D1; rintro e w' ⟨rfl, rfl⟩) | (refine (D2 _).mono ?_; clear D2; rintro e w' ⟨rfl, rfl⟩) | (refine (D3 _).mono ?_; clear D3; rintro e w' ⟨rfl, rfl⟩)))
  rw [rounds_succ]
  go_wp2_with (first | (go_at_call 67; first | (refine (D0 _).mono ?_; clear D0; rintro e w' ⟨rfl, rfl⟩) | (refine (D1 _).mono ?_; clear D1; rintro e w' ⟨rfl, rfl⟩) | (refine (D2 _).mono ?_; clear D2; rintro e w' ⟨rfl, rfl⟩) | (refine (D3 _).mono ?_; clear D3; rintro e w' ⟨rfl, rfl⟩)))
  rw [rounds_succ]
  go_wp2_with (first | (go_at_call 67; first | (refine (D0 _).mono ?_; clear D0; rintro e w' ⟨rfl, rfl⟩) | (refine (D1 _).mono ?_; clear D1; rintro e w' ⟨rfl, rfl⟩) | (refine (D2 _).mono ?_; clear D2; rintro e w' ⟨rfl, rfl⟩) | (refine (D3 _).mono ?_; clear D3; rintro e w' ⟨rfl, rfl⟩)))
  rw [rounds_succ]
  go_wp2_with fail
  go_ret2
  refine ⟨?_, Below.refl _ _⟩
  have e : ∀ x : Int, x = p → Ending.returned (.tuple #[.int .i32 x, .bool true]) = .returned (.tuple #[.int .i32 p, .bool true]) := fun x hx => by rw [hx]
  refine e _ ?_
  have f1 : wrap32 ((p / 4096 * 16 + p / 256 % 16) * 16) = p / 256 * 16 := by unfold wrap32; omega
  have f2 : wrap32 ((p / 256 * 16 + p / 16 % 16) * 16) = p / 16 * 16 := by unfold wrap32; omega
  rw [i32_or4 (by omega) (by omega) (by omega) (by omega), f1, i32_or4 (by omega) (by omega) (by omega) (by omega), f2, i32_or4 (by omega) (by omega) (by omega) (by omega)]
  omega

theorem i32_and15 {x : Int} (h0 : 0 ≤ x) (h1 : x ≤ 65535) : bits .and .i32 x 15 = x % 16 :=
  bits_mask .i32 31 (by decide) (fun n h0 h1 => by simp [IntKind.wrap, IntKind.bits, IntKind.signed]; omega) 4 (by decide) x h0 (by omega)
theorem hexD_lit {n : Int} (h : 0 ≤ n ∧ n < 16) {hi : n.toNat < (⟨#[48, 49, 50, 51, 52, 53, 54, 55, 56, 57, 65, 66, 67, 68, 69, 70]⟩ : ByteArray).size} :
    (⟨#[48, 49, 50, 51, 52, 53, 54, 55, 56, 57, 65, 66, 67, 68, 69, 70]⟩ : ByteArray)[n.toNat] = hexD n := by
  rcases small16 h.1 h.2 with rfl | rfl | rfl | rfl | rfl | rfl | rfl | rfl | rfl | rfl | rfl | rfl | rfl | rfl | rfl | rfl <;> rfl
theorem strOfNums_cell (p : Int) : strOfNums [((hexD (p / 4096)).toNat : Int), (hexD (p / 256 % 16)).toNat, (hexD (p / 16 % 16)).toNat, (hexD (p % 16)).toNat, 32] = ⟨(cellL p).toArray⟩ := by
  have e : ∀ c : UInt8, ((c.toNat : Int)).toNat.toUInt8 = c := fun c => u8_eq rfl
  simp only [strOfNums, List.map_cons, List.map_nil, e, cellL]
  rfl
theorem conv_cell (p : Int) (w : World) : (convert 51 9 (.slice (some ⟨w.heap.size, 0, none⟩) 5 5)).run Tryd.prog (w.alloc (.cells #[.int .u8 (hexD (p / 4096)).toNat, .int .u8 (hexD (p / 256 % 16)).toNat, .int .u8 (hexD (p / 16 % 16)).toNat, .int .u8 (hexD (p % 16)).toNat, .int .u8 32] 5)).drew = .ok (.string ⟨(cellL p).toArray⟩) (w.alloc (.cells #[.int .u8 (hexD (p / 4096)).toNat, .int .u8 (hexD (p / 256 % 16)).toNat, .int .u8 (hexD (p / 16 % 16)).toNat, .int .u8 (hexD (p % 16)).toNat, .int .u8 32] 5)).drew := by
  have hcv := conv_nums (P := Tryd.prog) 51 9 5 Tryd.underlying51 Tryd.underlying5 Tryd.underlying9 _ (Reads.drew (nums_new w 5 [((hexD (p / 4096)).toNat : Int), (hexD (p / 256 % 16)).toNat, (hexD (p / 16 % 16)).toNat, (hexD (p % 16)).toNat, 32] .u8)) 5
  rw [strOfNums_cell] at hcv
  exact hcv
def findZ (ps : List Int) (p : Int) : Int := if p < 0 ∨ 65535 < p then -1 else fnd ps p
theorem Find_any (s : ByteArray) (ps : List Int) (h : Hex s ps) (p : Int) (hs : s.size ≤ 100000) (w : World) (m : Int) (hm : w.cell? ⟨0, 0, none⟩ = some (.int .i64 m)) :
    Calls Tryd.prog 108 #[.string s, .int .i32 p] w fun e w' => e = .returned (.int .i64 (findZ ps p)) ∧ Below w.heap.size w w' := by
  by_cases hp : p < 0 ∨ 65535 < p
  · have e : findZ ps p = -1 := by unfold findZ; rw [if_pos hp]
    rw [e]
    rcases hp with hp | hp
    · go_enter Tryd.func108, Tryd.ntmps108
      go_wp2_with fail
      go_ret
      exact ⟨rfl, Below.refl _ _⟩
    · have h0 : ¬ p < 0 := by omega
      go_enter Tryd.func108, Tryd.ntmps108
      go_wp2_with fail
      go_ret
      exact ⟨rfl, Below.refl _ _⟩
  · have e : findZ ps p = fnd ps p := by unfold findZ; rw [if_neg hp]
    rw [e]
    have hp' : 0 ≤ p ∧ p ≤ 65535 := by omega
    obtain ⟨p0, p1⟩ := hp'
    have hn0 : ¬ p < 0 := by omega
    have hn1 : ¬ 65535 < p := by omega
    obtain ⟨⟨q00, q01⟩, ⟨q10, q11⟩, ⟨q20, q21⟩, ⟨q30, q31⟩⟩ := cell_digits ⟨p0, p1⟩
    clear hp e
    have b1 : bits BinOp.and IntKind.i32 (p / 256) 15 = p / 256 % 16 := i32_and15 (by omega) (by omega)
    have b2 : bits BinOp.and IntKind.i32 (p / 16) 15 = p / 16 % 16 := i32_and15 (by omega) (by omega)
    have b3 : bits BinOp.and IntKind.i32 p 15 = p % 16 := i32_and15 (by omega) (by omega)
    go_enter Tryd.func108, Tryd.ntmps108
    go_wp2_with fail
    go_region
    simp only [hexD_lit ⟨q00, q01⟩, hexD_lit ⟨q10, q11⟩, hexD_lit ⟨q20, q21⟩, hexD_lit ⟨q30, q31⟩]
    have hx := index_hex ps p h.2 ⟨p0, p1⟩
    have hcv := conv_cell p w
    have hpos := World.block_lt_of_cell? _ _ hm
    have hge := fnd_ge ps p
    have hlt := fnd_lt ps p
    have hsz := h.size
    have hsm : s.size < 4294967281 := by omega
    have hcell : ((w.alloc (.cells #[.int .u8 (hexD (p / 4096)).toNat, .int .u8 (hexD (p / 256 % 16)).toNat, .int .u8 (hexD (p / 16 % 16)).toNat, .int .u8 (hexD (p % 16)).toNat, .int .u8 32] 5)).drew).cell? ⟨0, 0, none⟩ = some (.int .i64 m) := by
      show (w.alloc _).cell? _ = _
      rw [World.cell?_alloc_lt w _ _ hpos]
      exact hm
    go_wp2_with (first | (go_at_call 122; refine (Tryd.strings_Index s ⟨(cellL p).toArray⟩ m _ hsm hcell).mono ?_; rintro e w1 ⟨rfl, rfl⟩))
    all_goals go_ret
    all_goals refine ⟨ret_int ?_, ((Below.refl _ w).alloc (Nat.le_refl _) _).drew⟩
    all_goals rename_i hq
    all_goals simp only [h.1, hx] at hq ⊢
    · by_cases hz : fnd ps p = -1
      · omega
      · rw [if_neg hz] at hq
        omega
    · by_cases hz : fnd ps p = -1
      · rw [if_pos hz] at hq
        omega
      · rw [if_neg hz, Int.mul_tdiv_cancel_left _ (by decide)]
        unfold wrap64
        omega
end Go.Proofs.YtpnjandlpbjddabDoor

/- Contract of octet.Big at two bytes, for every number below 65,536. -/
set_option maxRecDepth 100000
set_option maxHeartbeats 1000000
namespace Go.Proofs.YtpnjandlpbjddabDoor
open Go Go.RowKit

theorem Width2 (w : World) : Calls Tryd.prog 109 #[.int .i64 2] w fun e w' => e = .returned (.int .i64 2) ∧ w = w' := by
  go_enter Tryd.func109, Tryd.ntmps109
  go_wp2
  go_ret
  exact ⟨rfl, rfl⟩
theorem make2 (w : World) : (Instr.makeSlice 51 (.int .i64 2) (.int .i64 2)).run Tryd.prog w = .ok (.slice (some ⟨w.heap.size, 0, none⟩) 2 2) (w.alloc (.cells #[.int .u8 0, .int .u8 0] 5)) := by
  kernel_rfl
theorem Big2 (n : Int) (h0 : 0 ≤ n) (h1 : n ≤ 65535) (w : World) :
    Calls Tryd.prog 87 #[.int .u64 n, .int .i64 2] w fun e w' => e = .returned (.string ⟨#[(n / 256).toNat.toUInt8, (n % 256).toNat.toUInt8]⟩) ∧ Below w.heap.size w w' := by
  have hmk := make2
  go_enter Tryd.func87, Tryd.ntmps87
  go_wp2_with (first | (go_at_call 109; refine (Width2 _).mono ?_; rintro e w' ⟨rfl, rfl⟩))
  refine wp_loop_rounds 3 ?_
  rw [rounds_succ]
  go_wp2_with fail
  rw [rounds_succ]
  go_wp2_with fail
  have hcv := conv2 (P := Tryd.prog) 51 9 5 Tryd.underlying51 Tryd.underlying5 Tryd.underlying9 w (n / 256) (n % 256) 2
  rw [rounds_succ]
  go_wp2_with fail
  go_ret
  exact ⟨rfl, (Below.refl _ w).alloc (Nat.le_refl _) _⟩
theorem i64_or8 {x y : Int} (hy₀ : 0 ≤ y) (hy : y < 256) (hx₀ : 0 ≤ x) (hx : x < 8388608) : bits .or .i64 (x * 256) y = x * 256 + y :=
  bits_join .i64 63 (by decide) (fun n h0 h1 => by simp [IntKind.wrap, IntKind.bits, IntKind.signed]; omega) 8 (x * 256) y (by omega) (by omega) (by omega) hy₀ hy (by omega)
end Go.Proofs.YtpnjandlpbjddabDoor

/- Contracts of wansung.listed, spans, other, otherCode; condition: small numbers. -/
set_option maxRecDepth 100000
set_option maxHeartbeats 1000000
namespace Go.Proofs.YtpnjandlpbjddabDoor
open Go Go.RowKit

def wB (l : Int) : ByteArray := ⟨(hexL (listW l)).toArray⟩
theorem litW (l : Int) (d : Array UInt8) (h : eqB d.toList (hexL (listW l)) = true) : ByteArray.mk d = wB l := by
  have := eqB_eq _ _ h
  unfold wB
  rw [← this]
def nilB : ByteArray := ⟨#[]⟩
theorem litN : ByteArray.mk #[] = nilB := rfl
theorem wB_other {l : Int} (h1 : l ≠ 161) (h2 : l ≠ 162) (h6 : l ≠ 166) : wB l = nilB := by
  unfold wB listW
  rw [if_neg h1, if_neg h2, if_neg h6]
  rfl
theorem Listed_any (l : Int) (hl : 0 ≤ l ∧ l ≤ 255) (w : World) :
    Calls Tryd.prog 46 #[.int .i64 l] w fun e w' => e = .returned (.tuple #[.string (wB l), .int .i64 (l * 256 + 161)]) ∧ Below w.heap.size w w' := by
  obtain ⟨l0, l1⟩ := hl
  have hor : bits .or .i64 (l * 256) 161 = l * 256 + 161 := i64_or8 (by omega) (by omega) l0 (by omega)
  have ho := fun h1 h2 h6 => @wB_other l h1 h2 h6
  refine calls_of_wp Tryd.func46 rfl ?_
  rw [litN]
  rw [litW 161]
  rotate_left
  kernel_rfl
  rw [litW 162]
  rotate_left
  kernel_rfl
  rw [litW 166]
  rotate_left
  kernel_rfl
  simp only [Tryd.ntmps46, List.size_toArray, List.length_cons, List.length_nil, Nat.reduceAdd, Nat.reduceSub, Array.replicate_succ, Array.replicate_zero, List.push_toArray, List.append_toArray, List.nil_append, List.cons_append]
  by_cases h1 : l = 161
  · subst h1
    generalize wB 161 = s1
    generalize wB 162 = s2
    generalize wB 166 = s6
    generalize nilB = s0
    go_wp2_with fail
    go_ret2
    exact ⟨rfl, Below.refl _ _⟩
  by_cases h2 : l = 162
  · subst h2
    generalize wB 161 = s1
    generalize wB 162 = s2
    generalize wB 166 = s6
    generalize nilB = s0
    go_wp2_with fail
    go_ret2
    exact ⟨rfl, Below.refl _ _⟩
  by_cases h6 : l = 166
  · subst h6
    generalize wB 161 = s1
    generalize wB 162 = s2
    generalize wB 166 = s6
    generalize nilB = s0
    go_wp2_with fail
    go_ret2
    exact ⟨rfl, Below.refl _ _⟩
  rw [ho h1 h2 h6]
  clear ho
  generalize wB 161 = s1
  generalize wB 162 = s2
  generalize wB 166 = s6
  generalize nilB = s0
  have e1 : (l == 161) = false := by simp; omega
  have e2 : (l == 162) = false := by simp; omega
  have e6 : (l == 166) = false := by simp; omega
  go_wp2_with fail
  go_ret2
  exact ⟨rfl, Below.refl _ _⟩
def spC (k : Nat) : Int := (SPN.getD k (0, 0, 0)).1
def spT (k : Nat) : Int := (SPN.getD k (0, 0, 0)).2.1
def spN (k : Nat) : Int := (SPN.getD k (0, 0, 0)).2.2
def SpAt (w : World) (bk : Nat) : Prop := ∀ k : Nat, k < 19 → w.cell? ⟨bk, k * 3, none⟩ = some (.int .i64 (spC k)) ∧ w.cell? ⟨bk, k * 3 + 1, none⟩ = some (.int .i32 (spT k)) ∧ w.cell? ⟨bk, k * 3 + 2, none⟩ = some (.int .i64 (spN k))
theorem SpAt.keep {w w' : World} {bk B : Nat} (h : SpAt w bk) (hb : Below B w w') (hB : w.heap.size ≤ B) : SpAt w' bk := fun k hk => by
  obtain ⟨a, b, c⟩ := h k hk
  have hl := World.block_lt_of_cell? _ _ a
  have hl2 : bk < B := Nat.lt_of_lt_of_le hl hB
  exact ⟨(hb.cell (p := ⟨bk, _, none⟩) hl2).trans a, (hb.cell (p := ⟨bk, _, none⟩) hl2).trans b, (hb.cell (p := ⟨bk, _, none⟩) hl2).trans c⟩
def SpPost (w0 : World) (e : Ending) (w' : World) : Prop := ∃ bk : Nat, e = .returned (.slice (some ⟨bk, 0, none⟩) 19 19) ∧ SpAt w' bk ∧ Below w0.heap.size w0 w'
theorem lt19 {k : Nat} (h : k < 19) : k = 0 ∨ k = 1 ∨ k = 2 ∨ k = 3 ∨ k = 4 ∨ k = 5 ∨ k = 6 ∨ k = 7 ∨ k = 8 ∨ k = 9 ∨ k = 10 ∨ k = 11 ∨ k = 12 ∨ k = 13 ∨ k = 14 ∨ k = 15 ∨ k = 16 ∨ k = 17 ∨ k = 18 := by omega
def spV : Array Value := #[.int .i64 41889, .int .i32 65281, .int .i64 59, .int .i64 41948, .int .i32 65510, .int .i64 1, .int .i64 41949, .int .i32 65341, .int .i64 33, .int .i64 41982, .int .i32 65507, .int .i64 1, .int .i64 42145, .int .i32 12593, .int .i64 94, .int .i64 42401, .int .i32 8560, .int .i64 10, .int .i64 42416, .int .i32 8544, .int .i64 10, .int .i64 42433, .int .i32 913, .int .i64 17, .int .i64 42450, .int .i32 931, .int .i64 7, .int .i64 42465, .int .i32 945, .int .i64 17, .int .i64 42482, .int .i32 963, .int .i64 7, .int .i64 43681, .int .i32 12353, .int .i64 83, .int .i64 43937, .int .i32 12449, .int .i64 86, .int .i64 44193, .int .i32 1040, .int .i64 6, .int .i64 44199, .int .i32 1025, .int .i64 1, .int .i64 44200, .int .i32 1046, .int .i64 26, .int .i64 44241, .int .i32 1072, .int .i64 6, .int .i64 44247, .int .i32 1105, .int .i64 1, .int .i64 44248, .int .i32 1078, .int .i64 26]
theorem spV_at {k : Nat} (h : k < 19) : spV[k * 3]? = some (.int .i64 (spC k)) ∧ spV[k * 3 + 1]? = some (.int .i32 (spT k)) ∧ spV[k * 3 + 2]? = some (.int .i64 (spN k)) := by
  rcases lt19 h with rfl | rfl | rfl | rfl | rfl | rfl | rfl | rfl | rfl | rfl | rfl | rfl | rfl | rfl | rfl | rfl | rfl | rfl | rfl <;> exact ⟨rfl, rfl, rfl⟩
theorem SpAt_new (w : World) : SpAt (w.alloc (.cells spV 89)) w.heap.size := fun k hk => by
  have hc := fun j => cell_of_row (w.alloc (.cells spV 89)) w.heap.size j _ 89 (0, 0) (heap_alloc_new w _)
  rw [hc, hc, hc]
  exact spV_at hk
theorem Spans_any (w : World) : Calls Tryd.prog 48 #[] w (SpPost w) := by
  have hS := SpAt_new w
  unfold spV at hS
  go_enter Tryd.func48, Tryd.ntmps48
  go_wp2_with fail
  go_ret
  exact ⟨_, rfl, hS, (Below.refl _ w).alloc (Nat.le_refl _) _⟩
end Go.Proofs.YtpnjandlpbjddabDoor

/- Contracts of wansung.other, otherCode; condition: small numbers; the cell of the library's MaxLen holds some int. -/
set_option maxRecDepth 100000
set_option maxHeartbeats 1000000
namespace Go.Proofs.YtpnjandlpbjddabDoor
open Go Go.RowKit

theorem drop19 {k : Nat} (h : k < 19) : SPN.drop k = (spC k, spT k, spN k) :: SPN.drop (k + 1) := by
  have hl : k < SPN.length := by simpa [SPN] using h
  rw [List.drop_eq_getElem_cons hl]
  simp only [spC, spT, spN, List.getD_eq_getElem?_getD, List.getElem?_eq_getElem hl, Option.getD_some]
theorem span_step {k : Nat} (h : k < 19) (code : Int) : spanF (SPN.drop k) code = if spC k ≤ code ∧ code < spC k + spN k then spT k + (code - spC k) else spanF (SPN.drop (k + 1)) code := by
  rw [drop19 h]; rfl
theorem code_step {k : Nat} (h : k < 19) (p : Int) : spanC (SPN.drop k) p = if spT k ≤ p ∧ p - spT k < spN k then spC k + (p - spT k) else spanC (SPN.drop (k + 1)) p := by
  rw [drop19 h]; rfl
theorem sp_bd {k : Nat} (h : k < 19) : 41000 ≤ spC k ∧ spC k ≤ 65535 ∧ 1 ≤ spT k ∧ spT k ≤ 65535 ∧ 1 ≤ spN k ∧ spN k ≤ 94 ∧ spT k + spN k ≤ 65536 := by
  rcases lt19 h with rfl | rfl | rfl | rfl | rfl | rfl | rfl | rfl | rfl | rfl | rfl | rfl | rfl | rfl | rfl | rfl | rfl | rfl | rfl <;> decide +kernel
def OtRel (code : Int) (w0 : World) (bk : Nat) (i : Value) (wr : World) : Prop := ∃ k : Nat, k ≤ 19 ∧ i = .int .i64 k ∧ spanF SPN code = spanF (SPN.drop k) code ∧ SpAt wr bk ∧ Below w0.heap.size w0 wr
theorem i64_and255 {x : Int} (h0 : 0 ≤ x) (h1 : x ≤ 65535) : bits .and .i64 x 255 = x % 256 :=
  bits_mask .i64 63 (by decide) (fun n h0 h1 => by simp [IntKind.wrap, IntKind.bits, IntKind.signed]; omega) 8 (by decide) x h0 (by omega)
theorem Other_span (code lead b : Int) (hcb : 0 ≤ code ∧ code ≤ 65535) (e1 : bits .and .i64 code 255 = b) (e2 : code / 256 = lead) (hb : 161 ≤ b ∧ b ≤ 254) (h1 : lead ≠ 161) (h2 : lead ≠ 162) (h6 : lead ≠ 166) (w : World) :
    Calls Tryd.prog 104 #[.int .i64 code] w fun e w' => e = .returned (.tuple #[.int .i32 (spanF SPN code), .bool (decide (spanF SPN code ≠ 0))]) ∧ Below w.heap.size w w' := by
  have hli := fun w => Listed_any lead (by omega) w
  rw [wB_other h1 h2 h6] at hli
  unfold nilB at hli
  obtain ⟨b0, b1⟩ := hb
  have d1 : decide (b < 161) = false := by simp; omega
  have d2 : decide ((254 : Int) < b) = false := by simp; omega
  go_enter Tryd.func104, Tryd.ntmps104
  go_wp2_with (first | (go_at_call 46; refine (hli _).mono ?_; rintro e w1 ⟨rfl, hb1⟩) | (go_at_call 48; refine (Spans_any _).mono ?_; rintro e w2 ⟨bk, rfl, hS, hb2⟩))
  have hB2 := hb1.trans (hb2.mono hb1.size)
  clear hli e1 e2 d1 d2 h1 h2 h6 hb1 hb2
  go_loopw [33] (fun i wr => OtRel code w bk i wr) (fun i _ => 19 - (intOf i).toNat)
  case atStart => exact ⟨0, by omega, rfl, rfl, hS, hB2⟩
  case round =>
    obtain ⟨k, hk, rfl, heq, hSr, hbr⟩ := hrel
    by_cases hk19 : k < 19
    · have hstep := Lib.hid (span_step hk19 code)
      obtain ⟨c0, c1, c2⟩ := hSr k hk19
      have hbd := sp_bd hk19
      generalize spC k = C at *
      generalize spT k = T at *
      generalize spN k = M at *
      by_cases hC : C ≤ code
      · by_cases hM : code < C + M
        · have hval := Lib.hid (show spanF SPN code = T + (code - C) by rw [heq, hstep.out, if_pos ⟨hC, hM⟩])
          clear heq hstep
          go_wp2_with fail
          go_ret2
          refine ⟨?_, hbr.alloc hbr.size _⟩
          have hne : T + (code - C) ≠ 0 := by omega
          show Ending.returned (.tuple #[.int .i32 (T + (code - C)), .bool true]) = _
          rw [hval.out, decide_eq_true hne]
        · have hd : decide (code < C + M) = false := by simpa using hM
          have hval := Lib.hid (show spanF SPN code = spanF (SPN.drop (k + 1)) code by rw [heq, hstep.out, if_neg (fun h => hM h.2)])
          clear heq hstep
          go_wp2_with fail
          go_roundw
          case rel => exact ⟨k + 1, by omega, by go_num, hval.out, SpAt.keep hSr ((Below.refl _ _).alloc (Nat.le_refl _) _) (Nat.le_refl _), hbr.alloc hbr.size _⟩
          case measure => simp [intOf]; omega
      · have hd : decide (C ≤ code) = false := by simpa using hC
        have hval := Lib.hid (show spanF SPN code = spanF (SPN.drop (k + 1)) code by rw [heq, hstep.out, if_neg (fun h => hC h.1)])
        clear heq hstep
        go_wp2_with fail
        go_roundw
        case rel => exact ⟨k + 1, by omega, by go_num, hval.out, SpAt.keep hSr ((Below.refl _ _).alloc (Nat.le_refl _) _) (Nat.le_refl _), hbr.alloc hbr.size _⟩
        case measure => simp [intOf]; omega
    · have hk2 : k = 19 := by omega
      subst hk2
      have hend := Lib.hid (show spanF SPN code = 0 by rw [heq]; rfl)
      clear hk19 heq
      go_wp2_with fail
      go_ret2
      rw [hend.out]
      exact ⟨rfl, hbr⟩
theorem Other_low (code : Int) (hcb : 0 ≤ code ∧ code ≤ 65535) (hb : code % 256 < 161 ∨ 254 < code % 256) (w : World) :
    Calls Tryd.prog 104 #[.int .i64 code] w fun e w' => e = .returned (.tuple #[.int .i32 0, .bool false]) ∧ Below w.heap.size w w' := by
  have e1 := i64_and255 hcb.1 hcb.2
  generalize code % 256 = b at *
  rcases hb with hb | hb
  · have d1 : decide (b < 161) = true := by simpa using hb
    go_enter Tryd.func104, Tryd.ntmps104
    go_wp2_with fail
    go_ret2
    exact ⟨rfl, Below.refl _ _⟩
  · have d1 : decide (b < 161) = false := by simp; omega
    have d2 : decide ((254 : Int) < b) = true := by simpa using hb
    go_enter Tryd.func104, Tryd.ntmps104
    go_wp2_with fail
    go_ret2
    exact ⟨rfl, Below.refl _ _⟩
theorem WAt_any (s : ByteArray) (ps : List Int) (h : Hex s ps) (k : Int) (hs : s.size ≤ 100000) (hkb : -100000 ≤ k ∧ k ≤ 100000) (w : World) :
    Calls Tryd.prog 47 #[.string s, .int .i64 k] w fun e w' => e = .returned (.tuple #[.int .i32 (if 0 ≤ k ∧ k < ps.length then ps.getD k.toNat 0 else 0), .bool (decide (0 ≤ k ∧ k < ps.length))]) ∧ Below w.heap.size w w' := by
  by_cases hk : 0 ≤ k ∧ k < ps.length
  · have := At_in s ps h k.toNat (by omega) hs w
    have e : ((k.toNat : Nat) : Int) = k := by omega
    rw [e] at this
    simp only [hk, and_self, if_true, decide_true]
    exact this
  · have := At_out s ps h k (by omega) hs hkb w
    simp only [if_neg hk, decide_eq_false hk]
    exact this
theorem pos_list (l : Int) : ∀ p ∈ listW l, 0 < p ∧ p ≤ 65535 := by
  intro p hp
  have h := List.all_eq_true.1 pos_chk p
  simp only [Bool.and_eq_true, decide_eq_true_eq] at h
  refine h ?_
  unfold listW at hp
  simp only [List.mem_append]
  split at hp
  · exact .inl (.inl hp)
  · split at hp
    · exact .inl (.inr hp)
    · split at hp
      · exact .inr hp
      · cases hp
theorem len_list (l : Int) : (listW l).length ≤ 94 := by
  obtain ⟨a, b, c⟩ := len_chk
  unfold listW
  split
  · omega
  · split
    · omega
    · split
      · omega
      · simp
theorem hex_list (l : Int) : Hex (wB l) (listW l) ∧ (wB l).size ≤ 100000 := by
  have hx : Hex (wB l) (listW l) := ⟨by simp [wB], fun p hp => by have := pos_list l p hp; omega⟩
  refine ⟨hx, ?_⟩
  have := len_list l
  rw [hx.size]; omega
theorem full_list (l : Int) (h : l = 161 ∨ l = 162 ∨ l = 166) : (listW l).isEmpty = false ∧ 0 < (listW l).length := by
  rcases h with rfl | rfl | rfl <;> decide +kernel
theorem ne_nil {s : ByteArray} (h : 0 < s.size) : s.toList.isEmpty = false := by
  rw [ByteArray.toList_eq]
  have hl : s.data.toList.length = s.size := by simp
  generalize s.data.toList = l at *
  match l, hl with
  | [], hl => simp at hl; omega
  | _ :: _, _ => rfl
theorem Other_list (code lead b : Int) (hcb : 0 ≤ code ∧ code ≤ 65535) (hcd : code = lead * 256 + b) (hb : 161 ≤ b ∧ b ≤ 254) (hl : lead = 161 ∨ lead = 162 ∨ lead = 166) (w : World) :
    Calls Tryd.prog 104 #[.int .i64 code] w fun e w' => e = .returned (.tuple #[.int .i32 ((listW lead).getD (b - 161).toNat 0), .bool (decide ((listW lead).getD (b - 161).toNat 0 ≠ 0))]) ∧ Below w.heap.size w w' := by
  have e1 := i64_and255 hcb.1 hcb.2
  have e2 : code / 256 = lead := by omega
  have e3 : code % 256 = b := by omega
  have e4 : code - (lead * 256 + 161) = b - 161 := by omega
  rw [e3] at e1
  have hli := fun w => Listed_any lead (by omega) w
  obtain ⟨hx, hsz⟩ := hex_list lead
  have hat := fun w => WAt_any (wB lead) (listW lead) hx (b - 161) hsz (by omega) w
  have hne := ne_nil (s := wB lead) (by have := (full_list lead hl).2; rw [hx.size]; omega)
  have hval : (if 0 ≤ b - 161 ∧ b - 161 < (listW lead).length then (listW lead).getD (b - 161).toNat 0 else 0) = (listW lead).getD (b - 161).toNat 0 ∧ decide (0 ≤ b - 161 ∧ b - 161 < (listW lead).length) = decide ((listW lead).getD (b - 161).toNat 0 ≠ 0) := by
    by_cases hin : b - 161 < (listW lead).length
    · have := pos_list lead _ (getD_mem (ps := listW lead) (k := (b - 161).toNat) (by omega))
      refine ⟨if_pos ⟨by omega, hin⟩, ?_⟩
      rw [decide_eq_true (⟨by omega, hin⟩ : 0 ≤ b - 161 ∧ b - 161 < (listW lead).length), decide_eq_true (by omega)]
    · have h0 : (listW lead).getD (b - 161).toNat 0 = 0 := by
        rw [List.getD_eq_getElem?_getD, List.getElem?_eq_none (by omega)]; rfl
      rw [h0]
      refine ⟨if_neg (fun h => hin h.2), ?_⟩
      rw [decide_eq_false (fun h => hin h.2)]; rfl
  rw [hval.1, hval.2] at hat
  clear hval hx hsz e3
  generalize wB lead = s at *
  generalize decide ((listW lead).getD (b - 161).toNat 0 ≠ 0) = ok at *
  generalize (listW lead).getD (b - 161).toNat 0 = v at *
  obtain ⟨b0, b1⟩ := hb
  have d1 : decide (b < 161) = false := by simp; omega
  have d2 : decide ((254 : Int) < b) = false := by simp; omega
  clear hcd hl
  go_enter Tryd.func104, Tryd.ntmps104
  go_wp2_with (first | (go_at_call 46; refine (hli _).mono ?_; rintro e w1 ⟨rfl, hb1⟩) | (go_at_call 47; refine (hat _).mono ?_; rintro e w2 ⟨rfl, hb2⟩))
  go_ret2
  exact ⟨rfl, hb1.trans (hb2.mono hb1.size)⟩
/-- other, for every code of two bytes. -/
theorem Other_any (lead b : Int) (hl : 0 ≤ lead ∧ lead ≤ 255) (hb : 0 ≤ b ∧ b ≤ 255) (w : World) :
    Calls Tryd.prog 104 #[.int .i64 (lead * 256 + b)] w fun e w' => e = .returned (.tuple #[.int .i32 (otherZ lead b), .bool (decide (otherZ lead b ≠ 0))]) ∧ Below w.heap.size w w' := by
  unfold otherZ
  by_cases hlo : b < 161 ∨ 254 < b
  · rw [if_pos hlo]
    exact Other_low _ (by omega) (by omega) w
  · rw [if_neg hlo]
    by_cases h : lead = 161 ∨ lead = 162 ∨ lead = 166
    · rw [(full_list lead h).1]
      exact Other_list _ lead b (by omega) rfl (by omega) h w
    · have e : (listW lead).isEmpty = true := by
        unfold listW
        rw [if_neg (fun e => h (.inl e)), if_neg (fun e => h (.inr (.inl e))), if_neg (fun e => h (.inr (.inr e)))]
        rfl
      rw [e]
      have e1 := i64_and255 (x := lead * 256 + b) (by omega) (by omega)
      rw [show (lead * 256 + b) % 256 = b by omega] at e1
      exact Other_span _ lead b (by omega) e1 (by omega) (by omega) (fun e => h (.inl e)) (fun e => h (.inr (.inl e))) (fun e => h (.inr (.inr e))) w
end Go.Proofs.YtpnjandlpbjddabDoor
