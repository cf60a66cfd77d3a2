/- LrcReads holds; no condition. -/
import Derived.Test.YtllmjlmeheohlaaYT
import Derived.Test.YtllmjlmeheohlaaLin
set_option maxRecDepth 100000
set_option maxHeartbeats 4000000
namespace Go.Proofs.Ytllmjlmeheohlaa
open Go Go.RowKit

theorem cell_keepR {w' w'' : World} {a : Addr} {v : Value} (h : w'.cell? a = some v) (hb : Below w'.heap.size w' w'') : w''.cell? a = some v := by
  exact (hb.cell (World.block_lt_of_cell? w' a h)).trans h
theorem fin2 {w W w' : World} {p : Prop} (hB : Below w.heap.size w W) (h : p ∧ Below W.heap.size W w') : Below w.heap.size w w' := hB.trans (h.2.mono hB.size)
/-- The pieces of a text are whole that text, and not too many. -/
theorem linesF_whole : ∀ (f : Nat) (r : List UInt8) (i : Nat), r.length ≤ f → ((linesF f r i).map fun x : Ln => x.1 ++ x.2.1).flatten = r
  | 0, r, i, h => by
    have : r = [] := List.eq_nil_of_length_eq_zero (by omega)
    subst this; simp [linesF]
  | f + 1, r, i, h => by
    unfold linesF
    split
    · rename_i e; simp [e]
    · rename_i e
      have h1 := eol_pos e
      obtain ⟨t, ht⟩ := ln_pre r
      rw [← List.append_assoc] at ht
      have hd : r.drop ((lnT r).length + (lnE r).length) = t := by
        conv => lhs; arg 2; rw [ht]
        rw [← List.length_append]; exact List.drop_left
      rw [hd]
      have hl := congrArg List.length ht
      simp only [List.length_append] at hl
      have := linesF_whole f t (i + ((lnT r).length + (lnE r).length)) (by omega)
      simp only [List.map_cons, List.flatten_cons, this]
      exact ht.symm
theorem walk_wholeL (f : List UInt8 → Option (List Pc)) (hf : ∀ s ps, f s = some ps → wholeL ps = s) : ∀ (l : List Ln) (ps : List Pc), walkL f l = .inl ps → wholeL ps = (l.map fun x : Ln => x.1 ++ x.2.1).flatten
  | [], ps, h => by simp [walkL] at h; subst h; rfl
  | x :: l, ps, h => by
    cases hx : f x.1 with
    | none => rw [walkL_none hx] at h; cases h
    | some qs =>
      rw [walkL_some hx] at h
      cases hw : walkL f l with
      | inr a => rw [hw] at h; cases h
      | inl rs =>
        rw [hw] at h
        injection h with h
        subst h
        have h2 := walk_wholeL f hf l rs hw
        have h3 : wholeL (endP x.2.1) = x.2.1 := by
          unfold endP
          by_cases e : x.2.1 = []
          · rw [if_pos e, e]; rfl
          · rw [if_neg e]; exact wholeL_mk _
        rw [wholeL_append, wholeL_append, hf _ _ hx, h3, h2]; simp
theorem walk_whole (f : List UInt8 → Option (List Pc)) (hf : ∀ s ps, f s = some ps → wholeL ps = s) (t : List UInt8) (ps : List Pc) (h : walkL f (linesL t) = .inl ps) : wholeL ps = t := by
  rw [walk_wholeL f hf _ _ h]; exact linesF_whole _ _ _ (Nat.le_refl _)
theorem parse_len (t : List UInt8) (ps : List Pc) (h : walkL lrcL (linesL t) = .inl ps) : ps.length ≤ 9 * t.length := by
  have h1 := wt_walk lrcL lrcL_len _ _ h
  have h2 := wt_le t.length t 0
  unfold linesL at h1
  omega
theorem keepR {W w' w'' : World} {a0 a1 : Addr} {v0 v1 : Value} (h : (w'.cell? a0 = some v0 ∧ w'.cell? a1 = some v1) ∧ Below W.heap.size W w') (hb : Below w'.heap.size w' w'') :
    (w''.cell? a0 = some v0 ∧ w''.cell? a1 = some v1) ∧ Below W.heap.size W w'' :=
  ⟨⟨cell_keepR h.1.1 hb, cell_keepR h.1.2 hb⟩, h.2.trans (hb.mono h.2.size)⟩
theorem rows3_of {W w' : World} {v : Value} {ps : List Pc} (h : Rows3 pcV W v ps) {p : Prop} (hS : p ∧ Below W.heap.size W w') : Rows3 pcV w' v ps := h.below hS.2
theorem Reads_inl (s : ByteArray) (hs : s.size ≤ 1000) (ps : List Pc) (hr : walkL lrcL (linesL s.data.toList) = .inl ps) (w : World) :
    Calls Try.prog 6 #[.string s] w fun e w' => e = .returned (.bool true) ∧ Below w.heap.size w w' := by
  have hp : ∀ w, Calls Try.prog 17 #[.string s] w fun e w' => ∃ v, e = .returned (.tuple #[v, .agg #[.int .i64 0, .int .i64 0]]) ∧ Hid (Rows3 pcV w' v ps) ∧ Below w.heap.size w w' := fun w => (Parse_any s (by omega) w).mono fun e w' ⟨v, x, a, h1, h2, h3⟩ => by
    rw [hr] at h2
    rcases h2 with ⟨qs, e1, h4, _, rfl, rfl⟩ | ⟨m, e1, rfl, rfl, rfl⟩
    · injection e1 with e1; subst e1; exact ⟨v, h1, Lib.hid h4, h3⟩
    · cases e1
  have hq : ∀ w, Calls Try.prog 20 #[.string s] w fun e w' => ∃ v, e = .returned (.tuple #[v, .int .i64 (-1)]) ∧ Hid (Rows3 pcV w' v ps) ∧ Below w.heap.size w w' := fun w => (RParse_any s (by omega) w).mono fun e w' ⟨v, a, h1, h2, h3⟩ => by
    rw [hr] at h2
    rcases h2 with ⟨qs, e1, h4, rfl⟩ | ⟨m, e1, rfl, rfl⟩
    · injection e1 with e1; subst e1; exact ⟨v, h1, Lib.hid h4, h3⟩
    · cases e1
  have hdc := fun w => Declared_any s (by omega) w
  have hrd := fun w => RDeclared_any s (by omega) w
  generalize B (declL (linesL s.data.toList)) = D at *
  have hw := walk_whole lrcL lrcL_whole s.data.toList ps hr
  have hnp := parse_len s.data.toList ps hr
  have hsz : s.data.toList.length = s.size := by simp
  have hnp2 : ps.length ≤ 1000000 := by omega
  have hB : B s.data.toList = s := (B_of s).symm
  have hfa := fun w => LFault_any (-1) w
  simp only [show ((-1 : Int) < 0) = True from by simp, if_true] at hfa
  clear hr
  go_enter Try.func6, Try.ntmps6
  go_wp2_with (first | (go_at_call 17; refine (hp _).mono ?_; rintro e w1 ⟨v1, rfl, h1, hb1⟩) | (go_at_call 20; refine (hq _).mono ?_; rintro e w2 ⟨v2, rfl, h2, hb2⟩))
  obtain ⟨f0, f1, _, _, hz⟩ := box2 (show Below (w1.heap.size + 1) (w1.alloc (.cells #[.int .i64 0, .int .i64 0] 39)) w2 by simpa using hb2)
  have hB2 : Below w.heap.size w w2 := bch hb1 (below_a1 hb2)
  have G1 := Lib.hid (h1.out.below (below_a1 hb2))
  have G2 := h2
  clear h1 h2
  have hS0 : (w2.drew.cell? ⟨w1.heap.size, 0, none⟩ = some (.int .i64 0) ∧ w2.drew.cell? ⟨w1.heap.size, 1, none⟩ = some (.int .i64 0)) ∧ Below w2.heap.size w2 w2.drew := ⟨⟨f0, f1⟩, (Below.refl _ _).drew⟩
  refine wp_region_lin (fun w' => (w'.cell? ⟨w1.heap.size, 0, none⟩ = some (.int .i64 0) ∧ w'.cell? ⟨w1.heap.size, 1, none⟩ = some (.int .i64 0)) ∧ Below w2.heap.size w2 w') [(0, false), (1, true), (2, true), (3, true), (4, false), (5, true), (6, true), (7, true), (8, true), (9, true), (10, false), (11, true), (12, true), (13, true), (14, true), (15, true), (16, true), (18, true), (17, false), (19, true), (20, true), (21, true), (22, true), (23, true), (25, true), (24, false), (26, false), (27, true), (28, true), (29, true)] (by kernel_rfl) (by kernel_rfl) (by kernel_rfl) (Nat.le_of_ble_eq_true rfl) (fun _ _ d _ _ h => by cases d <;> exact h) hS0 ?_
  repeat (first
    | (refine lin_skip rfl (by rfl) ?_; try simp only [Act.put, List.setIfInBounds_toArray, List.set_cons_zero, List.set_cons_succ])
    | (refine' lin_pure rfl (by rfl) _ (fun w hSw => _) _; rotate_left; (go_simp; try with_reducible rfl); try simp only [Act.put, List.setIfInBounds_toArray, List.set_cons_zero, List.set_cons_succ])
    | (refine lin_eff rfl (by rfl) (fun K hK => ?_); go_simp; (first | (go_at_call 9; refine (awake26 _).mono ?_; rintro e w4 ⟨rfl, hb4⟩) | (go_at_call 21; refine (hfa _).mono ?_; rintro e w4 ⟨rfl, hb4⟩) | (go_at_call 14; refine (Same_any _ _ ps _ (rows3_of G1.out (by assumption)) (rows3_of G2.out (by assumption)) hnp2).mono ?_; rintro e w4 ⟨rfl, hb4⟩) | (go_at_call 22; refine (hdc _).mono ?_; rintro e w4 ⟨rfl, hb4⟩) | (go_at_call 23; refine (hrd _).mono ?_; rintro e w4 ⟨rfl, hb4⟩) | (go_at_call 15; refine (Whole_any _ ps _ (rows3_of G1.out (by assumption)) hnp2 (by rw [hw]; omega)).mono ?_; rintro e w4 ⟨rfl, hb4⟩; rw [hw, hB])); go_wp2_with fail; have hS := keepR (by assumption) hb4; refine hK.out _ _ hS ?_; clear hK K; try simp only [Act.put, List.setIfInBounds_toArray, List.set_cons_zero, List.set_cons_succ]))
  refine lin_nil ?_
  go_wp2
  go_ret
  exact ⟨rfl, fin2 hB2 (by assumption)⟩
theorem Reads_inr (s : ByteArray) (hs : s.size ≤ 1000) (n : Nat) (hr : walkL lrcL (linesL s.data.toList) = .inr n) (w : World) :
    Calls Try.prog 6 #[.string s] w fun e w' => e = .returned (.bool true) ∧ Below w.heap.size w w' := by
  have hp : ∀ w, Calls Try.prog 17 #[.string s] w fun e w' => e = .returned (.tuple #[.slice none 0 0, .agg #[.int .i64 1, .int .i64 n]]) ∧ Below w.heap.size w w' := fun w => (Parse_any s (by omega) w).mono fun e w' ⟨v, x, a, h1, h2, h3⟩ => by
    rw [hr] at h2
    rcases h2 with ⟨qs, e1, h4, _, rfl, rfl⟩ | ⟨m, e1, rfl, rfl, rfl⟩
    · cases e1
    · injection e1 with e1; subst e1; exact ⟨h1, h3⟩
  have hq : ∀ w, Calls Try.prog 20 #[.string s] w fun e w' => e = .returned (.tuple #[.slice none 0 0, .int .i64 n]) ∧ Below w.heap.size w w' := fun w => (RParse_any s (by omega) w).mono fun e w' ⟨v, a, h1, h2, h3⟩ => by
    rw [hr] at h2
    rcases h2 with ⟨qs, e1, h4, rfl⟩ | ⟨m, e1, rfl, rfl⟩
    · cases e1
    · injection e1 with e1; subst e1; exact ⟨h1, h3⟩
  have hdc := fun w => Declared_any s (by omega) w
  have hrd := fun w => RDeclared_any s (by omega) w
  generalize B (declL (linesL s.data.toList)) = D at *
  have hfa := fun w => LFault_any n w
  have hn0 : ¬ ((n : Int) < 0) := by omega
  simp only [hn0, if_false] at hfa
  have hge : decide ((0 : Int) ≤ n) = true := by simp
  clear hr
  go_enter Try.func6, Try.ntmps6
  go_wp2_with (first | (go_at_call 17; refine (hp _).mono ?_; rintro e w1 ⟨rfl, hb1⟩) | (go_at_call 20; refine (hq _).mono ?_; rintro e w2 ⟨rfl, hb2⟩))
  obtain ⟨f0, f1, _, _, hz⟩ := box2 (show Below (w1.heap.size + 1) (w1.alloc (.cells #[.int .i64 1, .int .i64 n] 39)) w2 by simpa using hb2)
  have hB2 : Below w.heap.size w w2 := bch hb1 (below_a1 hb2)
  have hS0 : (w2.drew.cell? ⟨w1.heap.size, 0, none⟩ = some (.int .i64 1) ∧ w2.drew.cell? ⟨w1.heap.size, 1, none⟩ = some (.int .i64 n)) ∧ Below w2.heap.size w2 w2.drew := ⟨⟨f0, f1⟩, (Below.refl _ _).drew⟩
  refine wp_region_lin (fun w' => (w'.cell? ⟨w1.heap.size, 0, none⟩ = some (.int .i64 1) ∧ w'.cell? ⟨w1.heap.size, 1, none⟩ = some (.int .i64 n)) ∧ Below w2.heap.size w2 w') [(0, false), (1, true), (2, true), (3, true), (4, false), (5, true), (6, true), (7, true), (8, true), (9, true), (10, false), (11, true), (12, true), (13, true), (14, true), (15, true), (16, true), (17, true), (18, true), (19, true), (20, true), (21, true), (22, true), (23, true), (25, true), (24, false), (26, false), (27, true), (28, true), (29, true)] (by kernel_rfl) (by kernel_rfl) (by kernel_rfl) (Nat.le_of_ble_eq_true rfl) (fun _ _ d _ _ h => by cases d <;> exact h) hS0 ?_
  repeat (first
    | (refine lin_skip rfl (by rfl) ?_; try simp only [Act.put, List.setIfInBounds_toArray, List.set_cons_zero, List.set_cons_succ])
    | (refine' lin_pure rfl (by rfl) _ (fun w hSw => _) _; rotate_left; (go_simp; try with_reducible rfl); try simp only [Act.put, List.setIfInBounds_toArray, List.set_cons_zero, List.set_cons_succ])
    | (refine lin_eff rfl (by rfl) (fun K hK => ?_); go_simp; (first | (go_at_call 9; refine (awake26 _).mono ?_; rintro e w4 ⟨rfl, hb4⟩) | (go_at_call 21; refine (hfa _).mono ?_; rintro e w4 ⟨rfl, hb4⟩) | (go_at_call 14; refine (Same_any _ _ [] _ (.inl ⟨rfl, rfl⟩) (.inl ⟨rfl, rfl⟩) (by simp)).mono ?_; rintro e w4 ⟨rfl, hb4⟩) | (go_at_call 22; refine (hdc _).mono ?_; rintro e w4 ⟨rfl, hb4⟩) | (go_at_call 23; refine (hrd _).mono ?_; rintro e w4 ⟨rfl, hb4⟩)); go_wp2_with fail; have hS := keepR (by assumption) hb4; refine hK.out _ _ hS ?_; clear hK K; try simp only [Act.put, List.setIfInBounds_toArray, List.set_cons_zero, List.set_cons_succ]))
  refine lin_nil ?_
  go_wp2
  go_ret
  exact ⟨rfl, fin2 hB2 (by assumption)⟩
theorem LrcReads_law (s : ByteArray) (w : World) :
    Calls Try.prog 6 #[.string s] w fun e w' => e = .returned (.bool true) ∧ Below w.heap.size w w' := by
  by_cases hs : s.size ≤ 1000
  · cases hr : walkL lrcL (linesL s.data.toList) with
    | inl ps => exact Reads_inl s hs ps hr w
    | inr n => exact Reads_inr s hs n hr w
  · go_enter Try.func6, Try.ntmps6
    have hgt : (1000 : Int) < s.size := by omega
    go_wp2_with (go_at_call 9; refine (awake26 _).mono ?_; rintro e w1 ⟨rfl, hb1⟩)
    go_ret
    exact ⟨rfl, hb1⟩
end Go.Proofs.Ytllmjlmeheohlaa
