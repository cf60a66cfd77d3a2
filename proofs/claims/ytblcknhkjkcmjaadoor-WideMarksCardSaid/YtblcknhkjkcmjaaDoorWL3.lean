/- The law WideMarks returns true for every string; condition: the tables of utf8 lie as laid. -/
import Derived.Test.YtblcknhkjkcmjaaDoorW9
set_option maxRecDepth 100000
set_option maxHeartbeats 1000000
namespace Go.Proofs.YtblcknhkjkcmjaaDoor
open Go Go.RowKit

theorem wkeepB2 {W w' w'' : World} {a0 a1 : Addr} {v0 v1 : Value} (h : w'.cell? a0 = some v0 ∧ w'.cell? a1 = some v1 ∧ Below W.heap.size W w') (hb : Below w'.heap.size w' w'') :
    w''.cell? a0 = some v0 ∧ w''.cell? a1 = some v1 ∧ Below W.heap.size W w'' :=
  ⟨wcell_keep h.1 hb, wcell_keep h.2.1 hb, h.2.2.trans (hb.mono h.2.2.size)⟩
theorem finB2 {w W w' : World} {p q : Prop} (hB : Below w.heap.size w W) (h : p ∧ q ∧ Below W.heap.size W w') : Below w.heap.size w w' := hB.trans (h.2.2.mono hB.size)
theorem wbad_le {big : Bool} {s : ByteArray} {n : Nat} (h : WBadAt big (behind s) n) (hs : s.size ≤ 2000) : n ≤ 2000 := by
  obtain ⟨ps, r, h1, h3, _, _⟩ := h
  have := congrArg List.length h1.1
  rw [List.length_append, ← h3] at this
  have hl : (behind s).data.toList.length = (behind s).size := by simp
  rw [hl, behind_size] at this
  omega

theorem marks_one (s : ByteArray) (hs : s.size ≤ 2000) (h1 : s.size < 2) (w : World) (hT : Tabs w) (hk : ∀ w, Calls Tryd.prog 32 #[.string s] w fun e w' => e = .returned (.tuple #[.bool false, .bool false]) ∧ Below w.heap.size w w') (hM : ∀ w, Calls Tryd.prog 33 #[.string s] w fun e w' => e = .returned (.tuple #[.string ⟨#[]⟩, .agg #[.int .i64 2, .int .i64 0]]) ∧ Below w.heap.size w w') (hne : s.toList.isEmpty = false) :
    Calls Tryd.prog 10 #[.string s] w fun e w' => e = .returned (.bool true) ∧ Below w.heap.size w w' := by
  go_enter Tryd.func10, Tryd.ntmps10
  go_wp2_with (first
    | (go_at_call 32; refine (hk _).mono ?_; rintro e w1 ⟨rfl, hb1⟩; have hz1 := hb1.size)
    | (go_at_call 33; refine (hM _).mono ?_; rintro e w2 ⟨rfl, hb2⟩))
  have hB2 := hb1.trans (hb2.mono hz1)
  have hB3 := hB2.alloc (o := .cells #[.int .i64 2, .int .i64 0] 44) hB2.size
  have hc0 : (w2.alloc (.cells #[.int .i64 2, .int .i64 0] 44)).cell? ⟨w2.heap.size, 0, none⟩ = some (.int .i64 2) := cell_two_new w2 _ _ 44 0 _ rfl
  have hc1 : (w2.alloc (.cells #[.int .i64 2, .int .i64 0] 44)).cell? ⟨w2.heap.size, 1, none⟩ = some (.int .i64 0) := cell_two_new w2 _ _ 44 1 _ rfl
  have hT3 := Tabs_below hT hB3 (Nat.le_refl _)
  generalize w2.alloc (.cells #[.int .i64 2, .int .i64 0] 44) = W at *
  have hS0 : W.drew.cell? ⟨w2.heap.size, 0, none⟩ = some (.int .i64 2) ∧ W.drew.cell? ⟨w2.heap.size, 1, none⟩ = some (.int .i64 0) ∧ Below W.heap.size W W.drew := ⟨hc0, hc1, (Below.refl _ _).drew⟩
  refine wp_region_lin (fun w' => w'.cell? ⟨w2.heap.size, 0, none⟩ = some (.int .i64 2) ∧ w'.cell? ⟨w2.heap.size, 1, none⟩ = some (.int .i64 0) ∧ Below W.heap.size W w') [(0, false), (1, true), (2, true), (3, true), (4, true), (5, true), (6, true), (7, true), (8, true), (9, true), (10, true), (11, true), (12, true), (13, true), (14, true), (15, true), (16, true), (17, true), (18, false), (19, true), (20, true), (21, true), (22, true), (23, true)] (by kernel_rfl) (by kernel_rfl) (by kernel_rfl) (Nat.le_of_ble_eq_true rfl) (fun _ _ d _ _ h => by cases d <;> exact h) hS0 ?_
  repeat (first
    | (refine lin_skip rfl (by rfl) ?_; try simp only [Act.put, List.setIfInBounds_toArray, List.set_cons_zero, List.set_cons_succ])
    | (refine' lin_pure rfl (by rfl) _ (fun w hSw => _) _; rotate_left; (go_simp; try with_reducible rfl); try simp only [Act.put, List.setIfInBounds_toArray, List.set_cons_zero, List.set_cons_succ])
    | (refine lin_eff rfl (by rfl) (fun K hK => ?_); go_simp; (first | (go_at_call 24; refine (wawake_t _ (Tabs_below hT3 (And.right (And.right (by assumption))) (Nat.le_refl _))).mono ?_; rintro e w9 ⟨rfl, hb9⟩) | (go_at_call 27; refine (LFault_pos _ (by omega) _).mono ?_; rintro e w9 ⟨rfl, hb9⟩)); go_wp2_with fail; have hS := wkeepB2 (by assumption) hb9; refine hK.out _ _ hS ?_; clear hK K; try simp only [Act.put, List.setIfInBounds_toArray, List.set_cons_zero, List.set_cons_succ]))
  refine lin_nil ?_
  go_wp2_with fail
  go_ret
  exact ⟨rfl, finB2 hB3 (by assumption)⟩

theorem marks_n1 (s : ByteArray) (hs : s.size ≤ 2000) (h2 : 2 ≤ s.size) (p1 : (s[0].toNat : Int) = 254) (p2 : ¬ (s[1].toNat : Int) = 255) (w : World) (hT : Tabs w) (hk : ∀ w, Calls Tryd.prog 32 #[.string s] w fun e w' => e = .returned (.tuple #[.bool false, .bool false]) ∧ Below w.heap.size w w') (hM : ∀ w, Calls Tryd.prog 33 #[.string s] w fun e w' => e = .returned (.tuple #[.string ⟨#[]⟩, .agg #[.int .i64 2, .int .i64 0]]) ∧ Below w.heap.size w w') (hne : s.toList.isEmpty = false) :
    Calls Tryd.prog 10 #[.string s] w fun e w' => e = .returned (.bool true) ∧ Below w.heap.size w w' := by
  go_enter Tryd.func10, Tryd.ntmps10
  go_wp2_with (first
    | (go_at_call 32; refine (hk _).mono ?_; rintro e w1 ⟨rfl, hb1⟩; have hz1 := hb1.size)
    | (go_at_call 33; refine (hM _).mono ?_; rintro e w2 ⟨rfl, hb2⟩))
  have hB2 := hb1.trans (hb2.mono hz1)
  have hB3 := hB2.alloc (o := .cells #[.int .i64 2, .int .i64 0] 44) hB2.size
  have hc0 : (w2.alloc (.cells #[.int .i64 2, .int .i64 0] 44)).cell? ⟨w2.heap.size, 0, none⟩ = some (.int .i64 2) := cell_two_new w2 _ _ 44 0 _ rfl
  have hc1 : (w2.alloc (.cells #[.int .i64 2, .int .i64 0] 44)).cell? ⟨w2.heap.size, 1, none⟩ = some (.int .i64 0) := cell_two_new w2 _ _ 44 1 _ rfl
  have hT3 := Tabs_below hT hB3 (Nat.le_refl _)
  generalize w2.alloc (.cells #[.int .i64 2, .int .i64 0] 44) = W at *
  have hS0 : W.drew.cell? ⟨w2.heap.size, 0, none⟩ = some (.int .i64 2) ∧ W.drew.cell? ⟨w2.heap.size, 1, none⟩ = some (.int .i64 0) ∧ Below W.heap.size W W.drew := ⟨hc0, hc1, (Below.refl _ _).drew⟩
  refine wp_region_lin (fun w' => w'.cell? ⟨w2.heap.size, 0, none⟩ = some (.int .i64 2) ∧ w'.cell? ⟨w2.heap.size, 1, none⟩ = some (.int .i64 0) ∧ Below W.heap.size W w') [(0, false), (1, true), (2, true), (3, true), (4, true), (5, true), (6, true), (7, true), (8, true), (9, true), (10, true), (11, true), (12, true), (13, true), (14, true), (15, true), (16, true), (17, true), (18, false), (19, true), (20, true), (21, true), (22, true), (23, true)] (by kernel_rfl) (by kernel_rfl) (by kernel_rfl) (Nat.le_of_ble_eq_true rfl) (fun _ _ d _ _ h => by cases d <;> exact h) hS0 ?_
  repeat (first
    | (refine lin_skip rfl (by rfl) ?_; try simp only [Act.put, List.setIfInBounds_toArray, List.set_cons_zero, List.set_cons_succ])
    | (refine' lin_pure rfl (by rfl) _ (fun w hSw => _) _; rotate_left; (go_simp; try with_reducible rfl); try simp only [Act.put, List.setIfInBounds_toArray, List.set_cons_zero, List.set_cons_succ])
    | (refine lin_eff rfl (by rfl) (fun K hK => ?_); go_simp; (first | (go_at_call 24; refine (wawake_t _ (Tabs_below hT3 (And.right (And.right (by assumption))) (Nat.le_refl _))).mono ?_; rintro e w9 ⟨rfl, hb9⟩) | (go_at_call 27; refine (LFault_pos _ (by omega) _).mono ?_; rintro e w9 ⟨rfl, hb9⟩)); go_wp2_with fail; have hS := wkeepB2 (by assumption) hb9; refine hK.out _ _ hS ?_; clear hK K; try simp only [Act.put, List.setIfInBounds_toArray, List.set_cons_zero, List.set_cons_succ]))
  refine lin_nil ?_
  go_wp2_with fail
  go_ret
  exact ⟨rfl, finB2 hB3 (by assumption)⟩

theorem marks_n2 (s : ByteArray) (hs : s.size ≤ 2000) (h2 : 2 ≤ s.size) (_p1 : ¬ (s[0].toNat : Int) = 254) (p3 : (s[0].toNat : Int) = 255) (p4 : ¬ (s[1].toNat : Int) = 254) (w : World) (hT : Tabs w) (hk : ∀ w, Calls Tryd.prog 32 #[.string s] w fun e w' => e = .returned (.tuple #[.bool false, .bool false]) ∧ Below w.heap.size w w') (hM : ∀ w, Calls Tryd.prog 33 #[.string s] w fun e w' => e = .returned (.tuple #[.string ⟨#[]⟩, .agg #[.int .i64 2, .int .i64 0]]) ∧ Below w.heap.size w w') (hne : s.toList.isEmpty = false) :
    Calls Tryd.prog 10 #[.string s] w fun e w' => e = .returned (.bool true) ∧ Below w.heap.size w w' := by
  go_enter Tryd.func10, Tryd.ntmps10
  go_wp2_with (first
    | (go_at_call 32; refine (hk _).mono ?_; rintro e w1 ⟨rfl, hb1⟩; have hz1 := hb1.size)
    | (go_at_call 33; refine (hM _).mono ?_; rintro e w2 ⟨rfl, hb2⟩))
  have hB2 := hb1.trans (hb2.mono hz1)
  have hB3 := hB2.alloc (o := .cells #[.int .i64 2, .int .i64 0] 44) hB2.size
  have hc0 : (w2.alloc (.cells #[.int .i64 2, .int .i64 0] 44)).cell? ⟨w2.heap.size, 0, none⟩ = some (.int .i64 2) := cell_two_new w2 _ _ 44 0 _ rfl
  have hc1 : (w2.alloc (.cells #[.int .i64 2, .int .i64 0] 44)).cell? ⟨w2.heap.size, 1, none⟩ = some (.int .i64 0) := cell_two_new w2 _ _ 44 1 _ rfl
  have hT3 := Tabs_below hT hB3 (Nat.le_refl _)
  generalize w2.alloc (.cells #[.int .i64 2, .int .i64 0] 44) = W at *
  have hS0 : W.drew.cell? ⟨w2.heap.size, 0, none⟩ = some (.int .i64 2) ∧ W.drew.cell? ⟨w2.heap.size, 1, none⟩ = some (.int .i64 0) ∧ Below W.heap.size W W.drew := ⟨hc0, hc1, (Below.refl _ _).drew⟩
  refine wp_region_lin (fun w' => w'.cell? ⟨w2.heap.size, 0, none⟩ = some (.int .i64 2) ∧ w'.cell? ⟨w2.heap.size, 1, none⟩ = some (.int .i64 0) ∧ Below W.heap.size W w') [(0, false), (1, true), (2, true), (3, true), (4, true), (5, true), (6, true), (7, true), (8, true), (9, true), (10, true), (11, true), (12, true), (13, true), (14, true), (15, true), (16, true), (17, true), (18, false), (19, true), (20, true), (21, true), (22, true), (23, true)] (by kernel_rfl) (by kernel_rfl) (by kernel_rfl) (Nat.le_of_ble_eq_true rfl) (fun _ _ d _ _ h => by cases d <;> exact h) hS0 ?_
  repeat (first
    | (refine lin_skip rfl (by rfl) ?_; try simp only [Act.put, List.setIfInBounds_toArray, List.set_cons_zero, List.set_cons_succ])
    | (refine' lin_pure rfl (by rfl) _ (fun w hSw => _) _; rotate_left; (go_simp; try with_reducible rfl); try simp only [Act.put, List.setIfInBounds_toArray, List.set_cons_zero, List.set_cons_succ])
    | (refine lin_eff rfl (by rfl) (fun K hK => ?_); go_simp; (first | (go_at_call 24; refine (wawake_t _ (Tabs_below hT3 (And.right (And.right (by assumption))) (Nat.le_refl _))).mono ?_; rintro e w9 ⟨rfl, hb9⟩) | (go_at_call 27; refine (LFault_pos _ (by omega) _).mono ?_; rintro e w9 ⟨rfl, hb9⟩)); go_wp2_with fail; have hS := wkeepB2 (by assumption) hb9; refine hK.out _ _ hS ?_; clear hK K; try simp only [Act.put, List.setIfInBounds_toArray, List.set_cons_zero, List.set_cons_succ]))
  refine lin_nil ?_
  go_wp2_with fail
  go_ret
  exact ⟨rfl, finB2 hB3 (by assumption)⟩

theorem marks_n3 (s : ByteArray) (hs : s.size ≤ 2000) (h2 : 2 ≤ s.size) (p1 : ¬ (s[0].toNat : Int) = 254) (p3 : ¬ (s[0].toNat : Int) = 255) (w : World) (hT : Tabs w) (hk : ∀ w, Calls Tryd.prog 32 #[.string s] w fun e w' => e = .returned (.tuple #[.bool false, .bool false]) ∧ Below w.heap.size w w') (hM : ∀ w, Calls Tryd.prog 33 #[.string s] w fun e w' => e = .returned (.tuple #[.string ⟨#[]⟩, .agg #[.int .i64 2, .int .i64 0]]) ∧ Below w.heap.size w w') (hne : s.toList.isEmpty = false) :
    Calls Tryd.prog 10 #[.string s] w fun e w' => e = .returned (.bool true) ∧ Below w.heap.size w w' := by
  go_enter Tryd.func10, Tryd.ntmps10
  go_wp2_with (first
    | (go_at_call 32; refine (hk _).mono ?_; rintro e w1 ⟨rfl, hb1⟩; have hz1 := hb1.size)
    | (go_at_call 33; refine (hM _).mono ?_; rintro e w2 ⟨rfl, hb2⟩))
  have hB2 := hb1.trans (hb2.mono hz1)
  have hB3 := hB2.alloc (o := .cells #[.int .i64 2, .int .i64 0] 44) hB2.size
  have hc0 : (w2.alloc (.cells #[.int .i64 2, .int .i64 0] 44)).cell? ⟨w2.heap.size, 0, none⟩ = some (.int .i64 2) := cell_two_new w2 _ _ 44 0 _ rfl
  have hc1 : (w2.alloc (.cells #[.int .i64 2, .int .i64 0] 44)).cell? ⟨w2.heap.size, 1, none⟩ = some (.int .i64 0) := cell_two_new w2 _ _ 44 1 _ rfl
  have hT3 := Tabs_below hT hB3 (Nat.le_refl _)
  generalize w2.alloc (.cells #[.int .i64 2, .int .i64 0] 44) = W at *
  have hS0 : W.drew.cell? ⟨w2.heap.size, 0, none⟩ = some (.int .i64 2) ∧ W.drew.cell? ⟨w2.heap.size, 1, none⟩ = some (.int .i64 0) ∧ Below W.heap.size W W.drew := ⟨hc0, hc1, (Below.refl _ _).drew⟩
  refine wp_region_lin (fun w' => w'.cell? ⟨w2.heap.size, 0, none⟩ = some (.int .i64 2) ∧ w'.cell? ⟨w2.heap.size, 1, none⟩ = some (.int .i64 0) ∧ Below W.heap.size W w') [(0, false), (1, true), (2, true), (3, true), (4, true), (5, true), (6, true), (7, true), (8, true), (9, true), (10, true), (11, true), (12, true), (13, true), (14, true), (15, true), (16, true), (17, true), (18, false), (19, true), (20, true), (21, true), (22, true), (23, true)] (by kernel_rfl) (by kernel_rfl) (by kernel_rfl) (Nat.le_of_ble_eq_true rfl) (fun _ _ d _ _ h => by cases d <;> exact h) hS0 ?_
  repeat (first
    | (refine lin_skip rfl (by rfl) ?_; try simp only [Act.put, List.setIfInBounds_toArray, List.set_cons_zero, List.set_cons_succ])
    | (refine' lin_pure rfl (by rfl) _ (fun w hSw => _) _; rotate_left; (go_simp; try with_reducible rfl); try simp only [Act.put, List.setIfInBounds_toArray, List.set_cons_zero, List.set_cons_succ])
    | (refine lin_eff rfl (by rfl) (fun K hK => ?_); go_simp; (first | (go_at_call 24; refine (wawake_t _ (Tabs_below hT3 (And.right (And.right (by assumption))) (Nat.le_refl _))).mono ?_; rintro e w9 ⟨rfl, hb9⟩) | (go_at_call 27; refine (LFault_pos _ (by omega) _).mono ?_; rintro e w9 ⟨rfl, hb9⟩)); go_wp2_with fail; have hS := wkeepB2 (by assumption) hb9; refine hK.out _ _ hS ?_; clear hK K; try simp only [Act.put, List.setIfInBounds_toArray, List.set_cons_zero, List.set_cons_succ]))
  refine lin_nil ?_
  go_wp2_with fail
  go_ret
  exact ⟨rfl, finB2 hB3 (by assumption)⟩

theorem marks_empty (w : World) (hT : Tabs w) (hk : ∀ w, Calls Tryd.prog 32 #[.string ⟨#[]⟩] w fun e w' => e = .returned (.tuple #[.bool false, .bool false]) ∧ Below w.heap.size w w') :
    Calls Tryd.prog 10 #[.string ⟨#[]⟩] w fun e w' => e = .returned (.bool true) ∧ Below w.heap.size w w' := by
  have hM := Marked_empty
  go_enter Tryd.func10, Tryd.ntmps10
  go_wp2_with (first
    | (go_at_call 32; refine (hk _).mono ?_; rintro e w1 ⟨rfl, hb1⟩; have hz1 := hb1.size)
    | (go_at_call 33; refine (hM _).mono ?_; rintro e w2 ⟨rfl, hb2⟩))
  have hB2 := hb1.trans (hb2.mono hz1)
  have hB3 := hB2.alloc (o := .cells #[.int .i64 0, .int .i64 0] 44) hB2.size
  have hc0 : (w2.alloc (.cells #[.int .i64 0, .int .i64 0] 44)).cell? ⟨w2.heap.size, 0, none⟩ = some (.int .i64 0) := cell_two_new w2 _ _ 44 0 _ rfl
  have hc1 : (w2.alloc (.cells #[.int .i64 0, .int .i64 0] 44)).cell? ⟨w2.heap.size, 1, none⟩ = some (.int .i64 0) := cell_two_new w2 _ _ 44 1 _ rfl
  have hT3 := Tabs_below hT hB3 (Nat.le_refl _)
  generalize w2.alloc (.cells #[.int .i64 0, .int .i64 0] 44) = W at *
  have hS0 : W.drew.cell? ⟨w2.heap.size, 0, none⟩ = some (.int .i64 0) ∧ W.drew.cell? ⟨w2.heap.size, 1, none⟩ = some (.int .i64 0) ∧ Below W.heap.size W W.drew := ⟨hc0, hc1, (Below.refl _ _).drew⟩
  refine wp_region_lin (fun w' => w'.cell? ⟨w2.heap.size, 0, none⟩ = some (.int .i64 0) ∧ w'.cell? ⟨w2.heap.size, 1, none⟩ = some (.int .i64 0) ∧ Below W.heap.size W w') [(0, false), (1, true), (2, true), (3, true), (4, true), (5, true), (6, true), (7, true), (8, true), (9, true), (10, false), (11, true), (12, true), (13, true), (14, true), (15, true), (16, true), (17, true), (18, true), (19, true), (20, true), (21, true), (22, true), (23, true)] (by kernel_rfl) (by kernel_rfl) (by kernel_rfl) (Nat.le_of_ble_eq_true rfl) (fun _ _ d _ _ h => by cases d <;> exact h) hS0 ?_
  repeat (first
    | (refine lin_skip rfl (by rfl) ?_; try simp only [Act.put, List.setIfInBounds_toArray, List.set_cons_zero, List.set_cons_succ])
    | (refine' lin_pure rfl (by rfl) _ (fun w hSw => _) _; rotate_left; (go_simp; try with_reducible rfl); try simp only [Act.put, List.setIfInBounds_toArray, List.set_cons_zero, List.set_cons_succ])
    | (refine lin_eff rfl (by rfl) (fun K hK => ?_); go_simp; (first | (go_at_call 24; refine (wawake_t _ (Tabs_below hT3 (And.right (And.right (by assumption))) (Nat.le_refl _))).mono ?_; rintro e w9 ⟨rfl, hb9⟩) | (go_at_call 29; refine (Bad_any _ _ _).mono ?_; rintro e w9 ⟨rfl, hb9⟩)); go_wp2_with fail; have hS := wkeepB2 (by assumption) hb9; refine hK.out _ _ hS ?_; clear hK K; try simp only [Act.put, List.setIfInBounds_toArray, List.set_cons_zero, List.set_cons_succ]))
  refine lin_nil ?_
  go_wp2_with fail
  go_ret
  exact ⟨rfl, finB2 hB3 (by assumption)⟩

theorem marks_big_good (s : ByteArray) (hs : s.size ≤ 2000) (X : ByteArray) (h2 : 2 ≤ s.size) (p1 : (s[0].toNat : Int) = 254) (p2 : (s[1].toNat : Int) = 255) (w : World) (hT : Tabs w) (hk : ∀ w, Calls Tryd.prog 32 #[.string s] w fun e w' => e = .returned (.tuple #[.bool true, .bool true]) ∧ Below w.heap.size w w') (hM : ∀ w, Calls Tryd.prog 33 #[.string s] w fun e w' => e = .returned (.tuple #[.string X, .agg #[.int .i64 0, .int .i64 0]]) ∧ Below w.heap.size w w')
    (hR : ∀ w, Calls Tryd.prog 26 #[.string (s.extract 2 s.size), .bool true] w fun e w' => e = .returned (.tuple #[.string X, .int .i64 (-1)]) ∧ Below w.heap.size w w') (hne : s.toList.isEmpty = false) :
    Calls Tryd.prog 10 #[.string s] w fun e w' => e = .returned (.bool true) ∧ Below w.heap.size w w' := by
  go_enter Tryd.func10, Tryd.ntmps10
  go_wp2_with (first
    | (go_at_call 32; refine (hk _).mono ?_; rintro e w1 ⟨rfl, hb1⟩; have hz1 := hb1.size)
    | (go_at_call 33; refine (hM _).mono ?_; rintro e w2 ⟨rfl, hb2⟩) 
    | (go_at_call 26; refine (hR _).mono ?_; rintro e w4 ⟨rfl, hb4⟩))
  have hB2 := hb1.trans (hb2.mono hz1)
  have hB3 := hB2.alloc (o := .cells #[.int .i64 0, .int .i64 0] 44) hB2.size
  have hc0 : (w2.alloc (.cells #[.int .i64 0, .int .i64 0] 44)).cell? ⟨w2.heap.size, 0, none⟩ = some (.int .i64 0) := cell_two_new w2 _ _ 44 0 _ rfl
  have hc1 : (w2.alloc (.cells #[.int .i64 0, .int .i64 0] 44)).cell? ⟨w2.heap.size, 1, none⟩ = some (.int .i64 0) := cell_two_new w2 _ _ 44 1 _ rfl
  have hT3 := Tabs_below hT hB3 (Nat.le_refl _)
  have hzz := hB3.size
  have hd0 := wcell_keep hc0 hb4
  have hd1 := wcell_keep hc1 hb4
  have hB4 := hB3.trans (hb4.mono hzz)
  have hT4 := Tabs_below hT hB4 (Nat.le_refl _)
  clear hT3 hc0 hc1 hB3
  have hB3 := hB4
  have hT3 := hT4
  clear hB4 hT4 hb4
  have hS0 : w4.drew.cell? ⟨w2.heap.size, 0, none⟩ = some (.int .i64 0) ∧ w4.drew.cell? ⟨w2.heap.size, 1, none⟩ = some (.int .i64 0) ∧ Below w4.heap.size w4 w4.drew := ⟨hd0, hd1, (Below.refl _ _).drew⟩
  refine wp_region_lin (fun w' => w'.cell? ⟨w2.heap.size, 0, none⟩ = some (.int .i64 0) ∧ w'.cell? ⟨w2.heap.size, 1, none⟩ = some (.int .i64 0) ∧ Below w4.heap.size w4 w') [(0, false), (1, true), (2, true), (3, true), (4, true), (5, true), (6, true), (7, true), (8, true), (9, false), (10, true), (11, true), (12, true)] (by kernel_rfl) (by kernel_rfl) (by kernel_rfl) (Nat.le_of_ble_eq_true rfl) (fun _ _ d _ _ h => by cases d <;> exact h) hS0 ?_
  repeat (first
    | (refine lin_skip rfl (by rfl) ?_; try simp only [Act.put, List.setIfInBounds_toArray, List.set_cons_zero, List.set_cons_succ])
    | (refine' lin_pure rfl (by rfl) _ (fun w hSw => _) _; rotate_left; (go_simp; try with_reducible rfl); try simp only [Act.put, List.setIfInBounds_toArray, List.set_cons_zero, List.set_cons_succ])
    | (refine lin_eff rfl (by rfl) (fun K hK => ?_); go_simp; (first | (go_at_call 24; refine (wawake_t _ (Tabs_below hT3 (And.right (And.right (by assumption))) (Nat.le_refl _))).mono ?_; rintro e w9 ⟨rfl, hb9⟩) | (go_at_call 27; refine (LFault_neg _ (by omega) _).mono ?_; rintro e w9 ⟨rfl, hb9⟩)); go_wp2_with fail; have hS := wkeepB2 (by assumption) hb9; refine hK.out _ _ hS ?_; clear hK K; try simp only [Act.put, List.setIfInBounds_toArray, List.set_cons_zero, List.set_cons_succ]))
  refine lin_nil ?_
  go_wp2_with fail
  go_ret
  exact ⟨rfl, finB2 hB3 (by assumption)⟩

theorem marks_big_bad (s : ByteArray) (hs : s.size ≤ 2000) (n : Nat) (h2 : 2 ≤ s.size) (p1 : (s[0].toNat : Int) = 254) (p2 : (s[1].toNat : Int) = 255) (w : World) (hT : Tabs w) (hk : ∀ w, Calls Tryd.prog 32 #[.string s] w fun e w' => e = .returned (.tuple #[.bool true, .bool true]) ∧ Below w.heap.size w w') (hM : ∀ w, Calls Tryd.prog 33 #[.string s] w fun e w' => e = .returned (.tuple #[.string ⟨#[]⟩, .agg #[.int .i64 2, .int .i64 (n + 2)]]) ∧ Below w.heap.size w w')
    (hR : ∀ w, Calls Tryd.prog 26 #[.string (s.extract 2 s.size), .bool true] w fun e w' => e = .returned (.tuple #[.string ⟨#[]⟩, .int .i64 n]) ∧ Below w.heap.size w w') (hne : s.toList.isEmpty = false) (hn : n ≤ 2000) :
    Calls Tryd.prog 10 #[.string s] w fun e w' => e = .returned (.bool true) ∧ Below w.heap.size w w' := by
  go_enter Tryd.func10, Tryd.ntmps10
  go_wp2_with (first
    | (go_at_call 32; refine (hk _).mono ?_; rintro e w1 ⟨rfl, hb1⟩; have hz1 := hb1.size)
    | (go_at_call 33; refine (hM _).mono ?_; rintro e w2 ⟨rfl, hb2⟩) 
    | (go_at_call 26; refine (hR _).mono ?_; rintro e w4 ⟨rfl, hb4⟩))
  have hB2 := hb1.trans (hb2.mono hz1)
  have hB3 := hB2.alloc (o := .cells #[.int .i64 2, .int .i64 (n + 2)] 44) hB2.size
  have hc0 : (w2.alloc (.cells #[.int .i64 2, .int .i64 (n + 2)] 44)).cell? ⟨w2.heap.size, 0, none⟩ = some (.int .i64 2) := cell_two_new w2 _ _ 44 0 _ rfl
  have hc1 : (w2.alloc (.cells #[.int .i64 2, .int .i64 (n + 2)] 44)).cell? ⟨w2.heap.size, 1, none⟩ = some (.int .i64 (n + 2)) := cell_two_new w2 _ _ 44 1 _ rfl
  have hT3 := Tabs_below hT hB3 (Nat.le_refl _)
  have hzz := hB3.size
  have hd0 := wcell_keep hc0 hb4
  have hd1 := wcell_keep hc1 hb4
  have hB4 := hB3.trans (hb4.mono hzz)
  have hT4 := Tabs_below hT hB4 (Nat.le_refl _)
  clear hT3 hc0 hc1 hB3
  have hB3 := hB4
  have hT3 := hT4
  clear hB4 hT4 hb4
  have hS0 : w4.drew.cell? ⟨w2.heap.size, 0, none⟩ = some (.int .i64 2) ∧ w4.drew.cell? ⟨w2.heap.size, 1, none⟩ = some (.int .i64 (n + 2)) ∧ Below w4.heap.size w4 w4.drew := ⟨hd0, hd1, (Below.refl _ _).drew⟩
  refine wp_region_lin (fun w' => w'.cell? ⟨w2.heap.size, 0, none⟩ = some (.int .i64 2) ∧ w'.cell? ⟨w2.heap.size, 1, none⟩ = some (.int .i64 (n + 2)) ∧ Below w4.heap.size w4 w') [(0, false), (1, true), (2, true), (3, true), (4, true), (5, true), (6, true), (7, true), (8, true), (9, false), (10, true), (11, true), (12, true)] (by kernel_rfl) (by kernel_rfl) (by kernel_rfl) (Nat.le_of_ble_eq_true rfl) (fun _ _ d _ _ h => by cases d <;> exact h) hS0 ?_
  repeat (first
    | (refine lin_skip rfl (by rfl) ?_; try simp only [Act.put, List.setIfInBounds_toArray, List.set_cons_zero, List.set_cons_succ])
    | (refine' lin_pure rfl (by rfl) _ (fun w hSw => _) _; rotate_left; (go_simp; try with_reducible rfl); try simp only [Act.put, List.setIfInBounds_toArray, List.set_cons_zero, List.set_cons_succ])
    | (refine lin_eff rfl (by rfl) (fun K hK => ?_); go_simp; (first | (go_at_call 24; refine (wawake_t _ (Tabs_below hT3 (And.right (And.right (by assumption))) (Nat.le_refl _))).mono ?_; rintro e w9 ⟨rfl, hb9⟩) | (go_at_call 27; refine (LFault_pos _ (by omega) _).mono ?_; rintro e w9 ⟨rfl, hb9⟩)); go_wp2_with fail; have hS := wkeepB2 (by assumption) hb9; refine hK.out _ _ hS ?_; clear hK K; try simp only [Act.put, List.setIfInBounds_toArray, List.set_cons_zero, List.set_cons_succ]))
  refine lin_nil ?_
  go_wp2_with fail
  go_ret
  exact ⟨rfl, finB2 hB3 (by assumption)⟩

theorem marks_small_good (s : ByteArray) (hs : s.size ≤ 2000) (X : ByteArray) (h2 : 2 ≤ s.size) (_p1 : ¬ (s[0].toNat : Int) = 254) (p3 : (s[0].toNat : Int) = 255) (p4 : (s[1].toNat : Int) = 254) (w : World) (hT : Tabs w) (hk : ∀ w, Calls Tryd.prog 32 #[.string s] w fun e w' => e = .returned (.tuple #[.bool false, .bool true]) ∧ Below w.heap.size w w') (hM : ∀ w, Calls Tryd.prog 33 #[.string s] w fun e w' => e = .returned (.tuple #[.string X, .agg #[.int .i64 0, .int .i64 0]]) ∧ Below w.heap.size w w')
    (hR : ∀ w, Calls Tryd.prog 26 #[.string (s.extract 2 s.size), .bool false] w fun e w' => e = .returned (.tuple #[.string X, .int .i64 (-1)]) ∧ Below w.heap.size w w') (hne : s.toList.isEmpty = false) :
    Calls Tryd.prog 10 #[.string s] w fun e w' => e = .returned (.bool true) ∧ Below w.heap.size w w' := by
  go_enter Tryd.func10, Tryd.ntmps10
  go_wp2_with (first
    | (go_at_call 32; refine (hk _).mono ?_; rintro e w1 ⟨rfl, hb1⟩; have hz1 := hb1.size)
    | (go_at_call 33; refine (hM _).mono ?_; rintro e w2 ⟨rfl, hb2⟩) 
    | (go_at_call 26; refine (hR _).mono ?_; rintro e w4 ⟨rfl, hb4⟩))
  have hB2 := hb1.trans (hb2.mono hz1)
  have hB3 := hB2.alloc (o := .cells #[.int .i64 0, .int .i64 0] 44) hB2.size
  have hc0 : (w2.alloc (.cells #[.int .i64 0, .int .i64 0] 44)).cell? ⟨w2.heap.size, 0, none⟩ = some (.int .i64 0) := cell_two_new w2 _ _ 44 0 _ rfl
  have hc1 : (w2.alloc (.cells #[.int .i64 0, .int .i64 0] 44)).cell? ⟨w2.heap.size, 1, none⟩ = some (.int .i64 0) := cell_two_new w2 _ _ 44 1 _ rfl
  have hT3 := Tabs_below hT hB3 (Nat.le_refl _)
  have hzz := hB3.size
  have hd0 := wcell_keep hc0 hb4
  have hd1 := wcell_keep hc1 hb4
  have hB4 := hB3.trans (hb4.mono hzz)
  have hT4 := Tabs_below hT hB4 (Nat.le_refl _)
  clear hT3 hc0 hc1 hB3
  have hB3 := hB4
  have hT3 := hT4
  clear hB4 hT4 hb4
  have hS0 : w4.drew.cell? ⟨w2.heap.size, 0, none⟩ = some (.int .i64 0) ∧ w4.drew.cell? ⟨w2.heap.size, 1, none⟩ = some (.int .i64 0) ∧ Below w4.heap.size w4 w4.drew := ⟨hd0, hd1, (Below.refl _ _).drew⟩
  refine wp_region_lin (fun w' => w'.cell? ⟨w2.heap.size, 0, none⟩ = some (.int .i64 0) ∧ w'.cell? ⟨w2.heap.size, 1, none⟩ = some (.int .i64 0) ∧ Below w4.heap.size w4 w') [(0, false), (1, true), (2, true), (3, true), (4, true), (5, true), (6, true), (7, true), (8, true), (9, false), (10, true), (11, true), (12, true)] (by kernel_rfl) (by kernel_rfl) (by kernel_rfl) (Nat.le_of_ble_eq_true rfl) (fun _ _ d _ _ h => by cases d <;> exact h) hS0 ?_
  repeat (first
    | (refine lin_skip rfl (by rfl) ?_; try simp only [Act.put, List.setIfInBounds_toArray, List.set_cons_zero, List.set_cons_succ])
    | (refine' lin_pure rfl (by rfl) _ (fun w hSw => _) _; rotate_left; (go_simp; try with_reducible rfl); try simp only [Act.put, List.setIfInBounds_toArray, List.set_cons_zero, List.set_cons_succ])
    | (refine lin_eff rfl (by rfl) (fun K hK => ?_); go_simp; (first | (go_at_call 24; refine (wawake_t _ (Tabs_below hT3 (And.right (And.right (by assumption))) (Nat.le_refl _))).mono ?_; rintro e w9 ⟨rfl, hb9⟩) | (go_at_call 27; refine (LFault_neg _ (by omega) _).mono ?_; rintro e w9 ⟨rfl, hb9⟩)); go_wp2_with fail; have hS := wkeepB2 (by assumption) hb9; refine hK.out _ _ hS ?_; clear hK K; try simp only [Act.put, List.setIfInBounds_toArray, List.set_cons_zero, List.set_cons_succ]))
  refine lin_nil ?_
  go_wp2_with fail
  go_ret
  exact ⟨rfl, finB2 hB3 (by assumption)⟩

theorem marks_small_bad (s : ByteArray) (hs : s.size ≤ 2000) (n : Nat) (h2 : 2 ≤ s.size) (_p1 : ¬ (s[0].toNat : Int) = 254) (p3 : (s[0].toNat : Int) = 255) (p4 : (s[1].toNat : Int) = 254) (w : World) (hT : Tabs w) (hk : ∀ w, Calls Tryd.prog 32 #[.string s] w fun e w' => e = .returned (.tuple #[.bool false, .bool true]) ∧ Below w.heap.size w w') (hM : ∀ w, Calls Tryd.prog 33 #[.string s] w fun e w' => e = .returned (.tuple #[.string ⟨#[]⟩, .agg #[.int .i64 2, .int .i64 (n + 2)]]) ∧ Below w.heap.size w w')
    (hR : ∀ w, Calls Tryd.prog 26 #[.string (s.extract 2 s.size), .bool false] w fun e w' => e = .returned (.tuple #[.string ⟨#[]⟩, .int .i64 n]) ∧ Below w.heap.size w w') (hne : s.toList.isEmpty = false) (hn : n ≤ 2000) :
    Calls Tryd.prog 10 #[.string s] w fun e w' => e = .returned (.bool true) ∧ Below w.heap.size w w' := by
  go_enter Tryd.func10, Tryd.ntmps10
  go_wp2_with (first
    | (go_at_call 32; refine (hk _).mono ?_; rintro e w1 ⟨rfl, hb1⟩; have hz1 := hb1.size)
    | (go_at_call 33; refine (hM _).mono ?_; rintro e w2 ⟨rfl, hb2⟩) 
    | (go_at_call 26; refine (hR _).mono ?_; rintro e w4 ⟨rfl, hb4⟩))
  have hB2 := hb1.trans (hb2.mono hz1)
  have hB3 := hB2.alloc (o := .cells #[.int .i64 2, .int .i64 (n + 2)] 44) hB2.size
  have hc0 : (w2.alloc (.cells #[.int .i64 2, .int .i64 (n + 2)] 44)).cell? ⟨w2.heap.size, 0, none⟩ = some (.int .i64 2) := cell_two_new w2 _ _ 44 0 _ rfl
  have hc1 : (w2.alloc (.cells #[.int .i64 2, .int .i64 (n + 2)] 44)).cell? ⟨w2.heap.size, 1, none⟩ = some (.int .i64 (n + 2)) := cell_two_new w2 _ _ 44 1 _ rfl
  have hT3 := Tabs_below hT hB3 (Nat.le_refl _)
  have hzz := hB3.size
  have hd0 := wcell_keep hc0 hb4
  have hd1 := wcell_keep hc1 hb4
  have hB4 := hB3.trans (hb4.mono hzz)
  have hT4 := Tabs_below hT hB4 (Nat.le_refl _)
  clear hT3 hc0 hc1 hB3
  have hB3 := hB4
  have hT3 := hT4
  clear hB4 hT4 hb4
  have hS0 : w4.drew.cell? ⟨w2.heap.size, 0, none⟩ = some (.int .i64 2) ∧ w4.drew.cell? ⟨w2.heap.size, 1, none⟩ = some (.int .i64 (n + 2)) ∧ Below w4.heap.size w4 w4.drew := ⟨hd0, hd1, (Below.refl _ _).drew⟩
  refine wp_region_lin (fun w' => w'.cell? ⟨w2.heap.size, 0, none⟩ = some (.int .i64 2) ∧ w'.cell? ⟨w2.heap.size, 1, none⟩ = some (.int .i64 (n + 2)) ∧ Below w4.heap.size w4 w') [(0, false), (1, true), (2, true), (3, true), (4, true), (5, true), (6, true), (7, true), (8, true), (9, false), (10, true), (11, true), (12, true)] (by kernel_rfl) (by kernel_rfl) (by kernel_rfl) (Nat.le_of_ble_eq_true rfl) (fun _ _ d _ _ h => by cases d <;> exact h) hS0 ?_
  repeat (first
    | (refine lin_skip rfl (by rfl) ?_; try simp only [Act.put, List.setIfInBounds_toArray, List.set_cons_zero, List.set_cons_succ])
    | (refine' lin_pure rfl (by rfl) _ (fun w hSw => _) _; rotate_left; (go_simp; try with_reducible rfl); try simp only [Act.put, List.setIfInBounds_toArray, List.set_cons_zero, List.set_cons_succ])
    | (refine lin_eff rfl (by rfl) (fun K hK => ?_); go_simp; (first | (go_at_call 24; refine (wawake_t _ (Tabs_below hT3 (And.right (And.right (by assumption))) (Nat.le_refl _))).mono ?_; rintro e w9 ⟨rfl, hb9⟩) | (go_at_call 27; refine (LFault_pos _ (by omega) _).mono ?_; rintro e w9 ⟨rfl, hb9⟩)); go_wp2_with fail; have hS := wkeepB2 (by assumption) hb9; refine hK.out _ _ hS ?_; clear hK K; try simp only [Act.put, List.setIfInBounds_toArray, List.set_cons_zero, List.set_cons_succ]))
  refine lin_nil ?_
  go_wp2_with fail
  go_ret
  exact ⟨rfl, finB2 hB3 (by assumption)⟩

theorem u8_is {a b : UInt8} (h : (a.toNat : Int) = b.toNat) : a = b := by
  apply UInt8.toNat_inj.1
  omega
theorem u8_not {a b : UInt8} (h : ¬ (a.toNat : Int) = b.toNat) : (a == b) = false := by
  rw [beq_eq_false_iff_ne]
  rintro rfl
  exact h rfl
theorem mark_cons (a b : UInt8) (r : List UInt8) : isBig (a :: b :: r) = (a == 254 && b == 255) ∧ isMark (a :: b :: r) = ((a == 254 && b == 255) || (a == 255 && b == 254)) := by
  constructor <;> simp [isBig, isMark, Bool.and_comm]

theorem wmarks_law (s : ByteArray) (w : World) (hT : Tabs w) :
    Calls Tryd.prog 10 #[.string s] w fun e w' => e = .returned (.bool true) ∧ Below w.heap.size w w' := by
  by_cases hs : s.size ≤ 2000
  · have hk := fun w => Mark_any s (by omega) w
    by_cases h0 : s.size = 0
    · have hse : s = ⟨#[]⟩ := by
        apply ByteArray.ext
        exact Array.eq_empty_of_size_eq_zero h0
      subst hse
      obtain ⟨e1, e2⟩ := short_mark ⟨#[]⟩ (by decide)
      rw [e1, e2] at hk
      exact marks_empty w hT hk
    have hne := not_empty s (by omega)
    by_cases h1 : s.size < 2
    · obtain ⟨e1, e2⟩ := short_mark s (by omega)
      rw [e1, e2] at hk
      exact marks_one s hs h1 w hT hk (fun w => Marked_no s (by omega) (by omega) e2 w) hne
    have h2 : 2 ≤ s.size := by omega
    have hd := drop_two s 0 (by omega)
    rw [List.drop_zero] at hd
    obtain ⟨e1, e2⟩ := mark_cons s[0] s[1] (s.data.toList.drop 2)
    have f1 : isBig s.data.toList = (s[0] == 254 && s[1] == 255) := by rw [hd]; exact e1
    have f2 : isMark s.data.toList = ((s[0] == 254 && s[1] == 255) || (s[0] == 255 && s[1] == 254)) := by rw [hd]; exact e2
    clear hd e1 e2
    by_cases p1 : (s[0].toNat : Int) = 254
    · have a1 : s[0] = 254 := u8_is p1
      by_cases p2 : (s[1].toNat : Int) = 255
      · have a2 : s[1] = 255 := u8_is p2
        have g1 : isBig s.data.toList = true := by rw [f1, a1, a2]; rfl
        have g2 : isMark s.data.toList = true := by rw [f2, a1, a2]; rfl
        rw [g1, g2] at hk
        rcases wgood_or_bad true (behind s) with ⟨ps, hg⟩ | ⟨n, hg⟩
        · exact marks_big_good s hs _ h2 p1 p2 w hT hk (fun w => Marked_good s ps g2 (by rw [g1]; exact hg) (by omega) w) (fun w => RDecode_good true (behind s) ps hg (by rw [behind_size]; omega) w) hne
        · exact marks_big_bad s hs n h2 p1 p2 w hT hk (fun w => Marked_bad s n g2 (by rw [g1]; exact hg) (by omega) w) (fun w => RDecode_bad true (behind s) n hg (by rw [behind_size]; omega) w) hne (wbad_le hg hs)
      · have a2 : (s[1] == 255) = false := u8_not p2
        have a3 : (s[0] == 255) = false := u8_not (by rw [a1]; decide)
        have g1 : isBig s.data.toList = false := by rw [f1, a2]; simp
        have g2 : isMark s.data.toList = false := by rw [f2, a2, a3]; simp
        rw [g1, g2] at hk
        exact marks_n1 s hs h2 p1 p2 w hT hk (fun w => Marked_no s (by omega) (by omega) g2 w) hne
    · have a1 : (s[0] == 254) = false := u8_not p1
      have g1 : isBig s.data.toList = false := by rw [f1, a1]; simp
      by_cases p3 : (s[0].toNat : Int) = 255
      · have a3 : s[0] = 255 := u8_is p3
        by_cases p4 : (s[1].toNat : Int) = 254
        · have a4 : s[1] = 254 := u8_is p4
          have g2 : isMark s.data.toList = true := by rw [f2, a1, a3, a4]; rfl
          rw [g1, g2] at hk
          rcases wgood_or_bad false (behind s) with ⟨ps, hg⟩ | ⟨n, hg⟩
          · exact marks_small_good s hs _ h2 p1 p3 p4 w hT hk (fun w => Marked_good s ps g2 (by rw [g1]; exact hg) (by omega) w) (fun w => RDecode_good false (behind s) ps hg (by rw [behind_size]; omega) w) hne
          · exact marks_small_bad s hs n h2 p1 p3 p4 w hT hk (fun w => Marked_bad s n g2 (by rw [g1]; exact hg) (by omega) w) (fun w => RDecode_bad false (behind s) n hg (by rw [behind_size]; omega) w) hne (wbad_le hg hs)
        · have a4 : (s[1] == 254) = false := u8_not p4
          have g2 : isMark s.data.toList = false := by rw [f2, a1, a4]; simp
          rw [g1, g2] at hk
          exact marks_n2 s hs h2 p1 p3 p4 w hT hk (fun w => Marked_no s (by omega) (by omega) g2 w) hne
      · have a3 : (s[0] == 255) = false := u8_not p3
        have g2 : isMark s.data.toList = false := by rw [f2, a1, a3]; simp
        rw [g1, g2] at hk
        exact marks_n3 s hs h2 p1 p3 w hT hk (fun w => Marked_no s (by omega) (by omega) g2 w) hne
  · have hs2 : 2000 < s.size := by omega
    clear hs
    go_enter Tryd.func10, Tryd.ntmps10
    go_wp2_with (go_at_call 24; refine (wawake_t _ hT).mono ?_; rintro e w9 ⟨rfl, hb9⟩)
    go_ret
    exact ⟨rfl, hb9⟩
end Go.Proofs.YtblcknhkjkcmjaaDoor
