/- SsaReads holds: whatever the text; condition: the package variable MaxLen is laid. -/
import Derived.Test.YtlcgfgbdehdndaaDoorVQ
set_option maxRecDepth 100000
set_option maxHeartbeats 4000000
namespace Go.Proofs.YtlcgfgbdehdndaaDoor
open Go Go.RowKit

theorem SReads_inl (s : ByteArray) (hs : s.size ≤ 2000) (ps : List Pc) (hr : walkS ssaL (false, []) (linesL s.data.toList) = .inl ps) (w : World) (hm : ML w) :
    Calls Tryd.prog 3 #[.string s] w fun e w' => e = .returned (.bool true) ∧ Below w.heap.size w w' := by
  have hp : Calls Tryd.prog 5 #[.string s] w fun e w' => ∃ v, e = .returned (.tuple #[v, .agg #[.int .i64 0, .int .i64 0]]) ∧ Hid (Rows3 pcV w' v ps) ∧ Below w.heap.size w w' := (SParse_any s (by omega) w hm).mono fun e w' ⟨v, x, a, h1, h2, h3⟩ => by
    rw [hr] at h2
    rcases h2 with ⟨qs, e1, h4, _, rfl, rfl⟩ | ⟨m, e1, rfl, rfl, rfl⟩
    · injection e1 with e1; subst e1; exact ⟨v, h1, Lib.hid h4, h3⟩
    · cases e1
  have hq : ∀ w, Calls Tryd.prog 6 #[.string s] w fun e w' => ∃ v, e = .returned (.tuple #[v, .int .i64 (-1)]) ∧ Hid (Rows3 pcV w' v ps) ∧ Below w.heap.size w w' := fun w => (RSParse_any s (by omega) w).mono fun e w' ⟨v, a, h1, h2, h3⟩ => by
    rw [hr] at h2
    rcases h2 with ⟨qs, e1, h4, rfl⟩ | ⟨m, e1, rfl, rfl⟩
    · injection e1 with e1; subst e1; exact ⟨v, h1, Lib.hid h4, h3⟩
    · cases e1
  have hw := walkS_whole ssaL ssaL_whole (false, []) s.data.toList ps hr
  have hnp := walkS_len ssaL ssaL_len (false, []) s.data.toList ps hr
  have hsz : s.data.toList.length = s.size := by simp
  have hnp2 : ps.length ≤ 1000000 := by omega
  have hB : B s.data.toList = s := (B_of s).symm
  have hfa := fun w => LFault_any (-1) w
  simp only [show ((-1 : Int) < 0) = True from by simp, if_true] at hfa
  clear hr
  have HM : Hid (ML w) := Lib.hid hm
  clear hm
  go_enter Tryd.func3, Tryd.ntmps3
  go_wp2_with (first | (go_at_call 5; refine hp.mono ?_; rintro e w1 ⟨v1, rfl, h1, hb1⟩) | (go_at_call 6; refine (hq _).mono ?_; rintro e w2 ⟨v2, rfl, h2, hb2⟩))
  obtain ⟨f0, f1, _, _, hz⟩ := box2 (show Below (w1.heap.size + 1) (w1.alloc (.cells #[.int .i64 0, .int .i64 0] 26)) w2 by simpa using hb2)
  have hB2 : Below w.heap.size w w2 := bch hb1 (below_a1 hb2)
  have HW2 : Hid (ML w2) := Lib.hid (ML_below HM.out hB2)
  have G1 := Lib.hid (h1.out.below (below_a1 hb2))
  have G2 := h2
  clear h1 h2
  have hS0 : (w2.drew.cell? ⟨w1.heap.size, 0, none⟩ = some (.int .i64 0) ∧ w2.drew.cell? ⟨w1.heap.size, 1, none⟩ = some (.int .i64 0)) ∧ Below w2.heap.size w2 w2.drew := ⟨⟨f0, f1⟩, (Below.refl _ _).drew⟩
  refine wp_region_lin (fun w' => (w'.cell? ⟨w1.heap.size, 0, none⟩ = some (.int .i64 0) ∧ w'.cell? ⟨w1.heap.size, 1, none⟩ = some (.int .i64 0)) ∧ Below w2.heap.size w2 w') [(0, false), (1, true), (2, true), (3, true), (4, false), (5, true), (6, true), (7, true), (8, true), (9, true), (10, false), (11, true), (12, true), (13, true), (14, true), (15, true), (16, true), (18, true), (17, false), (19, true), (20, true), (21, true), (22, true)] (by kernel_rfl) (by kernel_rfl) (by kernel_rfl) (Nat.le_of_ble_eq_true rfl) (fun _ _ d _ _ h => by cases d <;> exact h) hS0 ?_
  repeat (first
    | (refine lin_skip rfl (by rfl) ?_; try simp only [Act.put, List.setIfInBounds_toArray, List.set_cons_zero, List.set_cons_succ])
    | (refine' lin_pure rfl (by rfl) _ (fun w hSw => _) _; rotate_left; (go_simp; try with_reducible rfl); try simp only [Act.put, List.setIfInBounds_toArray, List.set_cons_zero, List.set_cons_succ])
    | (refine lin_eff rfl (by rfl) (fun K hK => ?_); go_simp; (first | (go_at_call 4; refine (aw25 HW2.out _ (Below.refl _ _).drew).mono ?_; rintro e w4 ⟨rfl, hb4⟩) | (go_at_call 7; refine (hfa _).mono ?_; rintro e w4 ⟨rfl, hb4⟩) | (go_at_call 8; refine (Same_any _ _ ps _ (rows3_of G1.out (by assumption)) (rows3_of G2.out (by assumption)) hnp2).mono ?_; rintro e w4 ⟨rfl, hb4⟩) | (go_at_call 9; refine (Whole_any _ ps _ (rows3_of G1.out (by assumption)) hnp2 (by rw [hw]; omega)).mono ?_; rintro e w4 ⟨rfl, hb4⟩; rw [hw, hB])); go_wp2_with fail; have hS := keepR (by assumption) hb4; refine hK.out _ _ hS ?_; clear hK K; try simp only [Act.put, List.setIfInBounds_toArray, List.set_cons_zero, List.set_cons_succ]))
  refine lin_nil ?_
  go_wp2
  go_ret
  exact ⟨rfl, fin2 hB2 (by assumption)⟩
theorem SReads_inr (s : ByteArray) (hs : s.size ≤ 2000) (n : Nat) (hr : walkS ssaL (false, []) (linesL s.data.toList) = .inr n) (w : World) (hm : ML w) :
    Calls Tryd.prog 3 #[.string s] w fun e w' => e = .returned (.bool true) ∧ Below w.heap.size w w' := by
  have hp : Calls Tryd.prog 5 #[.string s] w fun e w' => e = .returned (.tuple #[.slice none 0 0, .agg #[.int .i64 1, .int .i64 n]]) ∧ Below w.heap.size w w' := (SParse_any s (by omega) w hm).mono fun e w' ⟨v, x, a, h1, h2, h3⟩ => by
    rw [hr] at h2
    rcases h2 with ⟨qs, e1, h4, _, rfl, rfl⟩ | ⟨m, e1, rfl, rfl, rfl⟩
    · cases e1
    · injection e1 with e1; subst e1; exact ⟨h1, h3⟩
  have hq : ∀ w, Calls Tryd.prog 6 #[.string s] w fun e w' => e = .returned (.tuple #[.slice none 0 0, .int .i64 n]) ∧ Below w.heap.size w w' := fun w => (RSParse_any s (by omega) w).mono fun e w' ⟨v, a, h1, h2, h3⟩ => by
    rw [hr] at h2
    rcases h2 with ⟨qs, e1, h4, rfl⟩ | ⟨m, e1, rfl, rfl⟩
    · cases e1
    · injection e1 with e1; subst e1; exact ⟨h1, h3⟩
  have hfa := fun w => LFault_any n w
  have hn0 : ¬ ((n : Int) < 0) := by omega
  simp only [hn0, if_false] at hfa
  have hge : decide ((0 : Int) ≤ n) = true := by simp
  clear hr
  have HM : Hid (ML w) := Lib.hid hm
  clear hm
  go_enter Tryd.func3, Tryd.ntmps3
  go_wp2_with (first | (go_at_call 5; refine hp.mono ?_; rintro e w1 ⟨rfl, hb1⟩) | (go_at_call 6; refine (hq _).mono ?_; rintro e w2 ⟨rfl, hb2⟩))
  obtain ⟨f0, f1, _, _, hz⟩ := box2 (show Below (w1.heap.size + 1) (w1.alloc (.cells #[.int .i64 1, .int .i64 n] 26)) w2 by simpa using hb2)
  have hB2 : Below w.heap.size w w2 := bch hb1 (below_a1 hb2)
  have HW2 : Hid (ML w2) := Lib.hid (ML_below HM.out hB2)
  have hS0 : (w2.drew.cell? ⟨w1.heap.size, 0, none⟩ = some (.int .i64 1) ∧ w2.drew.cell? ⟨w1.heap.size, 1, none⟩ = some (.int .i64 n)) ∧ Below w2.heap.size w2 w2.drew := ⟨⟨f0, f1⟩, (Below.refl _ _).drew⟩
  refine wp_region_lin (fun w' => (w'.cell? ⟨w1.heap.size, 0, none⟩ = some (.int .i64 1) ∧ w'.cell? ⟨w1.heap.size, 1, none⟩ = some (.int .i64 n)) ∧ Below w2.heap.size w2 w') [(0, false), (1, true), (2, true), (3, true), (4, false), (5, true), (6, true), (7, true), (8, true), (9, true), (10, false), (11, true), (12, true), (13, true), (14, true), (15, true), (16, true), (17, true), (18, true), (19, true), (20, true), (21, true), (22, true)] (by kernel_rfl) (by kernel_rfl) (by kernel_rfl) (Nat.le_of_ble_eq_true rfl) (fun _ _ d _ _ h => by cases d <;> exact h) hS0 ?_
  repeat (first
    | (refine lin_skip rfl (by rfl) ?_; try simp only [Act.put, List.setIfInBounds_toArray, List.set_cons_zero, List.set_cons_succ])
    | (refine' lin_pure rfl (by rfl) _ (fun w hSw => _) _; rotate_left; (go_simp; try with_reducible rfl); try simp only [Act.put, List.setIfInBounds_toArray, List.set_cons_zero, List.set_cons_succ])
    | (refine lin_eff rfl (by rfl) (fun K hK => ?_); go_simp; (first | (go_at_call 4; refine (aw25 HW2.out _ (Below.refl _ _).drew).mono ?_; rintro e w4 ⟨rfl, hb4⟩) | (go_at_call 7; refine (hfa _).mono ?_; rintro e w4 ⟨rfl, hb4⟩) | (go_at_call 8; refine (Same_any _ _ [] _ (.inl ⟨rfl, rfl⟩) (.inl ⟨rfl, rfl⟩) (by simp)).mono ?_; rintro e w4 ⟨rfl, hb4⟩)); go_wp2_with fail; have hS := keepR (by assumption) hb4; refine hK.out _ _ hS ?_; clear hK K; try simp only [Act.put, List.setIfInBounds_toArray, List.set_cons_zero, List.set_cons_succ]))
  refine lin_nil ?_
  go_wp2
  go_ret
  exact ⟨rfl, fin2 hB2 (by assumption)⟩
theorem SsaReads_law (s : ByteArray) (w : World) (hm : ML w) :
    Calls Tryd.prog 3 #[.string s] w fun e w' => e = .returned (.bool true) ∧ Below w.heap.size w w' := by
  by_cases hs : s.size ≤ 2000
  · cases hr : walkS ssaL (false, []) (linesL s.data.toList) with
    | inl ps => exact SReads_inl s hs ps hr w hm
    | inr n => exact SReads_inr s hs n hr w hm
  · have hgt : (2000 : Int) < s.size := by omega
    go_enter Tryd.func3, Tryd.ntmps3
    go_wp2_with (go_at_call 4; refine (awake25 _ hm).mono ?_; rintro e w1 ⟨rfl, hb1⟩)
    go_ret
    exact ⟨rfl, hb1⟩
end Go.Proofs.YtlcgfgbdehdndaaDoor
