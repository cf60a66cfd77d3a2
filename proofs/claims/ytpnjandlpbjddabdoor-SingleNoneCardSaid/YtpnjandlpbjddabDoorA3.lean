/- Contract: the document's sign at a place (diacriticref02.At). -/
import Derived.Test.YtpnjandlpbjddabDoorA2
import Derived.LoopN
namespace Go.Proofs.YtpnjandlpbjddabDoor
open Go Go.RowKit

def chkZ (n p : Int) : Int × Int := if scalarB p = true ∧ ((Lib.encodeRune p).length : Int) = n then (p, n) else (0, 0)
def atZ (c m1 m2 m3 : Int) : Int × Int :=
  if c < 128 then (c, 1)
  else if 192 ≤ c ∧ c < 224 then (if m1 < 0 then (0, 0) else chkZ 2 ((c - 192) * 64 + m1))
  else if 224 ≤ c ∧ c < 240 then (if m1 < 0 then (0, 0) else if m2 < 0 then (0, 0) else chkZ 3 (((c - 224) * 64 + m1) * 64 + m2))
  else if 240 ≤ c ∧ c < 248 then (if m1 < 0 then (0, 0) else if m2 < 0 then (0, 0) else if m3 < 0 then (0, 0) else chkZ 4 ((((c - 240) * 64 + m1) * 64 + m2) * 64 + m3))
  else (0, 0)
def AtPost (R : Int × Int) (w : World) (e : Ending) (w' : World) : Prop := e = .returned (.tuple #[.int .i32 R.1, .int .i64 R.2]) ∧ Below w.heap.size w w'
theorem at_mk {a b : Int} {R : Int × Int} {w w' : World} (h : R = (a, b)) (hb : Below w.heap.size w w') : AtPost R w (.returned (.tuple #[.int .i32 a, .int .i64 b])) w' := by
  subst h; exact ⟨rfl, hb⟩
theorem moreZ_bd (l : List UInt8) (i : Nat) : -1 ≤ moreZ l i ∧ moreZ l i < 64 := by
  unfold moreZ
  split
  · omega
  · split <;> omega

theorem At_2 (s : ByteArray) (i : Nat) (hi : i < s.size) (hz : s.size ≤ 140737488355328) (c m1 m2 m3 : Int) (hc : (s[i]).toNat = c) (h1 : moreZ s.data.toList (i + 1) = m1) (hc2 : 192 ≤ c ∧ c < 224) (w : World) :
    Calls Tryd.prog 52 #[.string s, .int .i64 i] w (AtPost (atZ c m1 m2 m3) w) := by
  have b1 := moreZ_bd s.data.toList (i + 1)
  rw [h1] at b1
  go_enter Tryd.func52, Tryd.ntmps52
  go_wp2_with fail
  refine wp_loop_rounds 4 ?_
  rw [rounds_succ]
  go_wp2_with (first | (go_at_call 78; refine (more_any _ _ (by omega) _).mono ?_; rintro e w' ⟨rfl, rfl⟩) | (go_at_call 79; refine (RScalar_any _ _).mono ?_; rintro e w' ⟨rfl, rfl⟩) | (go_at_call 80; refine (RBytes_any (by assumption) _).mono ?_; rintro e w' ⟨rfl, hb⟩))
  all_goals try (rw [rounds_succ]; go_wp2_with (first | (go_at_call 78; refine (more_any _ _ (by omega) _).mono ?_; rintro e w' ⟨rfl, rfl⟩) | (go_at_call 79; refine (RScalar_any _ _).mono ?_; rintro e w' ⟨rfl, rfl⟩) | (go_at_call 80; refine (RBytes_any (by assumption) _).mono ?_; rintro e w' ⟨rfl, hb⟩)))
  all_goals try (rw [rounds_succ]; go_wp2_with (first | (go_at_call 78; refine (more_any _ _ (by omega) _).mono ?_; rintro e w' ⟨rfl, rfl⟩) | (go_at_call 79; refine (RScalar_any _ _).mono ?_; rintro e w' ⟨rfl, rfl⟩) | (go_at_call 80; refine (RBytes_any (by assumption) _).mono ?_; rintro e w' ⟨rfl, hb⟩)))
  all_goals try (rw [rounds_succ]; go_wp2_with (first | (go_at_call 78; refine (more_any _ _ (by omega) _).mono ?_; rintro e w' ⟨rfl, rfl⟩) | (go_at_call 79; refine (RScalar_any _ _).mono ?_; rintro e w' ⟨rfl, rfl⟩) | (go_at_call 80; refine (RBytes_any (by assumption) _).mono ?_; rintro e w' ⟨rfl, hb⟩)))
  all_goals
    go_ret2
    refine at_mk ?_ (by first | exact Below.refl _ _ | assumption)
    unfold atZ chkZ
    repeat' split
    all_goals first | rfl | (exfalso; omega) | (simp_all; done)

theorem At_3 (s : ByteArray) (i : Nat) (hi : i < s.size) (hz : s.size ≤ 140737488355328) (c m1 m2 m3 : Int) (hc : (s[i]).toNat = c) (h1 : moreZ s.data.toList (i + 1) = m1) (h2 : moreZ s.data.toList (i + 2) = m2) (hc2 : 224 ≤ c ∧ c < 240) (w : World) :
    Calls Tryd.prog 52 #[.string s, .int .i64 i] w (AtPost (atZ c m1 m2 m3) w) := by
  have b1 := moreZ_bd s.data.toList (i + 1)
  rw [h1] at b1
  have b2 := moreZ_bd s.data.toList (i + 2)
  rw [h2] at b2
  go_enter Tryd.func52, Tryd.ntmps52
  go_wp2_with fail
  refine wp_loop_rounds 4 ?_
  rw [rounds_succ]
  go_wp2_with (first | (go_at_call 78; refine (more_any _ _ (by omega) _).mono ?_; rintro e w' ⟨rfl, rfl⟩) | (go_at_call 79; refine (RScalar_any _ _).mono ?_; rintro e w' ⟨rfl, rfl⟩) | (go_at_call 80; refine (RBytes_any (by assumption) _).mono ?_; rintro e w' ⟨rfl, hb⟩))
  all_goals try (rw [rounds_succ]; go_wp2_with (first | (go_at_call 78; refine (more_any _ _ (by omega) _).mono ?_; rintro e w' ⟨rfl, rfl⟩) | (go_at_call 79; refine (RScalar_any _ _).mono ?_; rintro e w' ⟨rfl, rfl⟩) | (go_at_call 80; refine (RBytes_any (by assumption) _).mono ?_; rintro e w' ⟨rfl, hb⟩)))
  all_goals try (rw [rounds_succ]; go_wp2_with (first | (go_at_call 78; refine (more_any _ _ (by omega) _).mono ?_; rintro e w' ⟨rfl, rfl⟩) | (go_at_call 79; refine (RScalar_any _ _).mono ?_; rintro e w' ⟨rfl, rfl⟩) | (go_at_call 80; refine (RBytes_any (by assumption) _).mono ?_; rintro e w' ⟨rfl, hb⟩)))
  all_goals try (rw [rounds_succ]; go_wp2_with (first | (go_at_call 78; refine (more_any _ _ (by omega) _).mono ?_; rintro e w' ⟨rfl, rfl⟩) | (go_at_call 79; refine (RScalar_any _ _).mono ?_; rintro e w' ⟨rfl, rfl⟩) | (go_at_call 80; refine (RBytes_any (by assumption) _).mono ?_; rintro e w' ⟨rfl, hb⟩)))
  all_goals
    go_ret2
    refine at_mk ?_ (by first | exact Below.refl _ _ | assumption)
    unfold atZ chkZ
    repeat' split
    all_goals first | rfl | (exfalso; omega) | (simp_all; done)

set_option maxHeartbeats 1000000 in
theorem At_4 (s : ByteArray) (i : Nat) (hi : i < s.size) (hz : s.size ≤ 140737488355328) (c m1 m2 m3 : Int) (hc : (s[i]).toNat = c) (h1 : moreZ s.data.toList (i + 1) = m1) (h2 : moreZ s.data.toList (i + 2) = m2) (h3 : moreZ s.data.toList (i + 3) = m3) (hc2 : 240 ≤ c ∧ c < 248) (w : World) :
    Calls Tryd.prog 52 #[.string s, .int .i64 i] w (AtPost (atZ c m1 m2 m3) w) := by
  have b1 := moreZ_bd s.data.toList (i + 1)
  rw [h1] at b1
  have b2 := moreZ_bd s.data.toList (i + 2)
  rw [h2] at b2
  have b3 := moreZ_bd s.data.toList (i + 3)
  rw [h3] at b3
  go_enter Tryd.func52, Tryd.ntmps52
  go_wp2_with fail
  refine wp_loop_rounds 4 ?_
  rw [rounds_succ]
  go_wp2_with (first | (go_at_call 78; refine (more_any _ _ (by omega) _).mono ?_; rintro e w' ⟨rfl, rfl⟩) | (go_at_call 79; refine (RScalar_any _ _).mono ?_; rintro e w' ⟨rfl, rfl⟩) | (go_at_call 80; refine (RBytes_any (by assumption) _).mono ?_; rintro e w' ⟨rfl, hb⟩))
  all_goals try (rw [rounds_succ]; go_wp2_with (first | (go_at_call 78; refine (more_any _ _ (by omega) _).mono ?_; rintro e w' ⟨rfl, rfl⟩) | (go_at_call 79; refine (RScalar_any _ _).mono ?_; rintro e w' ⟨rfl, rfl⟩) | (go_at_call 80; refine (RBytes_any (by assumption) _).mono ?_; rintro e w' ⟨rfl, hb⟩)))
  all_goals try (rw [rounds_succ]; go_wp2_with (first | (go_at_call 78; refine (more_any _ _ (by omega) _).mono ?_; rintro e w' ⟨rfl, rfl⟩) | (go_at_call 79; refine (RScalar_any _ _).mono ?_; rintro e w' ⟨rfl, rfl⟩) | (go_at_call 80; refine (RBytes_any (by assumption) _).mono ?_; rintro e w' ⟨rfl, hb⟩)))
  all_goals try (rw [rounds_succ]; go_wp2_with (first | (go_at_call 78; refine (more_any _ _ (by omega) _).mono ?_; rintro e w' ⟨rfl, rfl⟩) | (go_at_call 79; refine (RScalar_any _ _).mono ?_; rintro e w' ⟨rfl, rfl⟩) | (go_at_call 80; refine (RBytes_any (by assumption) _).mono ?_; rintro e w' ⟨rfl, hb⟩)))
  all_goals
    go_ret2
    refine at_mk ?_ (by first | exact Below.refl _ _ | assumption)
    unfold atZ chkZ
    repeat' split
    all_goals first | rfl | (exfalso; omega) | (simp_all; done)

theorem At_0 (s : ByteArray) (i : Nat) (hi : i < s.size) (c m1 m2 m3 : Int) (hc : (s[i]).toNat = c) (hc2 : c < 192 ∨ 248 ≤ c) (w : World) :
    Calls Tryd.prog 52 #[.string s, .int .i64 i] w (AtPost (atZ c m1 m2 m3) w) := by
  have hb : 0 ≤ c ∧ c < 256 := by have := (s[i]).toNat_lt; omega
  go_enter Tryd.func52, Tryd.ntmps52
  go_wp2_with fail
  all_goals
    go_ret2
    refine at_mk ?_ (Below.refl _ _)
    unfold atZ
    repeat' split
    all_goals first | rfl | (exfalso; omega)

theorem At_any (s : ByteArray) (i : Nat) (hi : i < s.size) (hz : s.size ≤ 140737488355328) (w : World) :
    Calls Tryd.prog 52 #[.string s, .int .i64 i] w (AtPost (atZ (s[i]).toNat (moreZ s.data.toList (i + 1)) (moreZ s.data.toList (i + 2)) (moreZ s.data.toList (i + 3))) w) := by
  by_cases c2 : 192 ≤ ((s[i]).toNat : Int) ∧ ((s[i]).toNat : Int) < 224
  · exact At_2 s i hi hz _ _ _ _ rfl rfl c2 w
  by_cases c3 : 224 ≤ ((s[i]).toNat : Int) ∧ ((s[i]).toNat : Int) < 240
  · exact At_3 s i hi hz _ _ _ _ rfl rfl rfl c3 w
  by_cases c4 : 240 ≤ ((s[i]).toNat : Int) ∧ ((s[i]).toNat : Int) < 248
  · exact At_4 s i hi hz _ _ _ _ rfl rfl rfl rfl c4 w
  · exact At_0 s i hi _ _ _ _ rfl (by omega) w
end Go.Proofs.YtpnjandlpbjddabDoor
