/- The example of layer 3 holds; condition: the tables of utf8 lie as laid. -/
import Derived.Test.YtblcknhkjkcmjaaDoorW8
import Derived.Deep.RegionHeld3
set_option maxRecDepth 100000
set_option maxHeartbeats 1000000
namespace Go.Proofs.YtblcknhkjkcmjaaDoor
open Go Go.RowKit

theorem wcell_keep {w' w'' : World} {a : Addr} {v : Value} (h : w'.cell? a = some v) (hb : Below w'.heap.size w' w'') : w''.cell? a = some v :=
  (hb.cell (World.block_lt_of_cell? w' a h)).trans h
theorem keep6 {W w' w'' : World} {a0 a1 b0 b1 c0 c1 : Addr} {v0 v1 x0 x1 y0 y1 : Value} (h : (w'.cell? a0 = some v0 ∧ w'.cell? a1 = some v1) ∧ (w'.cell? b0 = some x0 ∧ w'.cell? b1 = some x1) ∧ (w'.cell? c0 = some y0 ∧ w'.cell? c1 = some y1) ∧ Below W.heap.size W w') (hb : Below w'.heap.size w' w'') :
    (w''.cell? a0 = some v0 ∧ w''.cell? a1 = some v1) ∧ (w''.cell? b0 = some x0 ∧ w''.cell? b1 = some x1) ∧ (w''.cell? c0 = some y0 ∧ w''.cell? c1 = some y1) ∧ Below W.heap.size W w'' :=
  ⟨⟨wcell_keep h.1.1 hb, wcell_keep h.1.2 hb⟩, ⟨wcell_keep h.2.1.1 hb, wcell_keep h.2.1.2 hb⟩, ⟨wcell_keep h.2.2.1.1 hb, wcell_keep h.2.2.1.2 hb⟩, h.2.2.2.trans (hb.mono h.2.2.2.size)⟩
theorem tabs6 {W w' : World} {a0 a1 b0 b1 c0 c1 : Addr} {v0 v1 x0 x1 y0 y1 : Value} (hT : Tabs W) (h : (w'.cell? a0 = some v0 ∧ w'.cell? a1 = some v1) ∧ (w'.cell? b0 = some x0 ∧ w'.cell? b1 = some x1) ∧ (w'.cell? c0 = some y0 ∧ w'.cell? c1 = some y1) ∧ Below W.heap.size W w') : Tabs w' := Tabs_below hT h.2.2.2 (Nat.le_refl _)
theorem fin6 {w W w' : World} {a0 a1 b0 b1 c0 c1 : Addr} {v0 v1 x0 x1 y0 y1 : Value} (hB : Below w.heap.size w W) (h : (w'.cell? a0 = some v0 ∧ w'.cell? a1 = some v1) ∧ (w'.cell? b0 = some x0 ∧ w'.cell? b1 = some x1) ∧ (w'.cell? c0 = some y0 ∧ w'.cell? c1 = some y1) ∧ Below W.heap.size W w') : Below w.heap.size w w' :=
  hB.trans (h.2.2.2.mono hB.size)

theorem ex_good : Good ⟨#[97]⟩ [97] := ⟨rfl, by decide⟩
theorem ex_back : WGood true (behind ⟨#[254, 255, 216, 61, 222, 0]⟩) [128512] := ⟨by decide, by decide⟩
theorem ex_bad : WBadAt true ⟨#[216, 0, 0, 65]⟩ 0 := ⟨[], [216, 0, 0, 65], ⟨rfl, by decide⟩, rfl, by decide, by decide⟩

theorem WAwake_t (w : World) (hT : Tabs w) :
    Calls Tryd.prog 53 #[] w fun e w' => e = .returned (.bool true) ∧ Below w.heap.size w w' := by
  have h1 := fun w hT => WithMark_good ⟨#[97]⟩ [97] ex_good (by decide) w hT
  have h2 := fun w => Marked_good ⟨#[254, 255, 216, 61, 222, 0]⟩ [128512] (by decide) ex_back (by decide) w
  have h3 := fun w => WDecode_bad true ⟨#[216, 0, 0, 65]⟩ 0 ex_bad (by decide) w
  have e1 : ([255, 254] ++ wtext false [97] : List UInt8) = [255, 254, 97, 0] := by decide
  have e2 : textL [128512] = [240, 159, 152, 128] := by decide
  rw [e1] at h1
  rw [e2] at h2
  clear e1 e2
  go_enter Tryd.func53, Tryd.ntmps53
  go_wp2_with (first
    | (go_at_call 78; refine (h1 _ hT).mono ?_; rintro e w1 ⟨rfl, hb1⟩; have hz1 := hb1.size)
    | (go_at_call 33; refine (h2 _).mono ?_; rintro e w2 ⟨rfl, hb2⟩; have hz2 := sz_a1 hb2)
    | (go_at_call 25; refine (h3 _).mono ?_; rintro e w3 ⟨rfl, hb3⟩; have hz3 := sz_a1 hb3))
  clear h1 h2 h3
  have k1 := box2 (hb2.mono (by simp))
  have k2 := box2 (hb3.mono (by simp))
  have B2 := hb1.trans ((below_a1 hb2).mono hz1)
  have B3 := B2.trans ((below_a1 hb3).mono (by omega))
  have B4 := B3.alloc (o := .cells #[.int .i64 2, .int .i64 0] 44) (by omega)
  have c3a : (w3.alloc (.cells #[.int .i64 2, .int .i64 0] 44)).cell? ⟨w3.heap.size, 0, none⟩ = some (.int .i64 2) := cell_two_new w3 _ _ 44 0 _ rfl
  have c3b : (w3.alloc (.cells #[.int .i64 2, .int .i64 0] 44)).cell? ⟨w3.heap.size, 1, none⟩ = some (.int .i64 0) := cell_two_new w3 _ _ 44 1 _ rfl
  have c2a : (w3.alloc (.cells #[.int .i64 2, .int .i64 0] 44)).cell? ⟨w2.heap.size, 0, none⟩ = some (.int .i64 0) := wcell_keep k2.1 (Below.alloc (Below.refl _ _) (Nat.le_refl _) _)
  have c2b : (w3.alloc (.cells #[.int .i64 2, .int .i64 0] 44)).cell? ⟨w2.heap.size, 1, none⟩ = some (.int .i64 0) := wcell_keep k2.2.1 (Below.alloc (Below.refl _ _) (Nat.le_refl _) _)
  have q2 : Below w2.heap.size w2 w3 := below_a1 hb3
  have c1a : (w3.alloc (.cells #[.int .i64 2, .int .i64 0] 44)).cell? ⟨w1.heap.size, 0, none⟩ = some (.int .i64 0) := wcell_keep (wcell_keep k1.1 q2) (Below.alloc (Below.refl _ _) (Nat.le_refl _) _)
  have c1b : (w3.alloc (.cells #[.int .i64 2, .int .i64 0] 44)).cell? ⟨w1.heap.size, 1, none⟩ = some (.int .i64 0) := wcell_keep (wcell_keep k1.2.1 q2) (Below.alloc (Below.refl _ _) (Nat.le_refl _) _)
  clear k1 k2 q2 hb2 hb3 B2 B3
  generalize w3.alloc (.cells #[.int .i64 2, .int .i64 0] 44) = W at *
  have hT4 := Tabs_below hT B4 (Nat.le_refl _)
  have hS : (W.cell? ⟨w1.heap.size, 0, none⟩ = some (.int .i64 0) ∧ W.cell? ⟨w1.heap.size, 1, none⟩ = some (.int .i64 0)) ∧ (W.cell? ⟨w2.heap.size, 0, none⟩ = some (.int .i64 0) ∧ W.cell? ⟨w2.heap.size, 1, none⟩ = some (.int .i64 0)) ∧ (W.cell? ⟨w3.heap.size, 0, none⟩ = some (.int .i64 2) ∧ W.cell? ⟨w3.heap.size, 1, none⟩ = some (.int .i64 0)) ∧ Below W.heap.size W W := ⟨⟨c1a, c1b⟩, ⟨c2a, c2b⟩, ⟨c3a, c3b⟩, Below.refl _ _⟩
  clear c1a c1b c2a c2b c3a c3b
  refine (Awake_t _ hT4).mono ?_
  rintro e w5 ⟨rfl, hb5⟩
  have hS5 := keep6 hS hb5
  obtain ⟨⟨p1, p2⟩, _, _, _⟩ := id hS5
  have HS5 := Lib.hid hS5
  clear hS5 hS
  go_wp2_with fail
  refine (Bad_any _ _ _).mono ?_
  rintro e w6 ⟨rfl, hb6⟩
  have hS6 := keep6 HS5.out hb6
  obtain ⟨_, ⟨p3, p4⟩, _, _⟩ := id hS6
  have HS6 := Lib.hid hS6
  clear hS6
  go_wp2_with fail
  refine (Bad_any _ _ _).mono ?_
  rintro e w7 ⟨rfl, hb7⟩
  have hS7 := keep6 HS6.out hb7
  obtain ⟨_, _, ⟨p5, p6⟩, _⟩ := id hS7
  have HS7 := Lib.hid hS7
  clear hS7
  go_wp2_with fail
  go_ret
  exact ⟨rfl, fin6 B4 HS7.out⟩
theorem wawake_t (w : World) (hT : Tabs w) :
    Calls Tryd.prog 24 #[] w fun e w' => e = .returned (.bool true) ∧ Below w.heap.size w w' := by
  go_enter Tryd.func24, Tryd.ntmps24
  go_wp2_with (go_at_call 53; refine (WAwake_t _ hT).mono ?_; rintro e w1 ⟨rfl, hb1⟩)
  go_ret
  exact ⟨rfl, hb1⟩
end Go.Proofs.YtblcknhkjkcmjaaDoor
