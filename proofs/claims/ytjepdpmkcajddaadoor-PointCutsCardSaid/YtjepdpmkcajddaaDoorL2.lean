/- The laws of layer 2, walked: PointReads. -/
import Derived.Test.YtjepdpmkcajddaaDoorP6
import Derived.Deep.RegionHeld3
namespace Go.Proofs.YtjepdpmkcajddaaDoor
open Go Go.RowKit
set_option maxRecDepth 100000

theorem cell_keep {w' w'' : World} {a : Addr} {v : Value} (h : w'.cell? a = some v) (hb : Below w'.heap.size w' w'') : w''.cell? a = some v :=
  (hb.cell (World.block_lt_of_cell? w' a h)).trans h
theorem keep2 {W w' w'' : World} {a0 a1 : Addr} {v0 v1 : Value} (h : w'.cell? a0 = some v0 ∧ w'.cell? a1 = some v1 ∧ Below W.heap.size W w') (hb : Below w'.heap.size w' w'') :
    w''.cell? a0 = some v0 ∧ w''.cell? a1 = some v1 ∧ Below W.heap.size W w'' :=
  ⟨cell_keep h.1 hb, cell_keep h.2.1 hb, h.2.2.trans (hb.mono h.2.2.size)⟩
theorem tabsS {W w' : World} {a0 a1 : Addr} {v0 v1 : Value} (hT : Tabs W) (h : w'.cell? a0 = some v0 ∧ w'.cell? a1 = some v1 ∧ Below W.heap.size W w') : Tabs w' := Tabs_below hT h.2.2 (Nat.le_refl _)
theorem finS {w W w' w'' : World} {a0 a1 : Addr} {v0 v1 : Value} (hB : Below w.heap.size w W) (h : w'.cell? a0 = some v0 ∧ w'.cell? a1 = some v1 ∧ Below W.heap.size W w') (hb : Below w'.heap.size w' w'') : Below w.heap.size w w'' :=
  (hB.trans (h.2.2.mono hB.size)).trans (hb.mono (Nat.le_trans hB.size h.2.2.size))
theorem belowS {W w' : World} {a0 a1 : Addr} {v0 v1 : Value} {A : Option Addr} {k : IntKind} {zs : List Int} (hn : Nums W W.heap.size k A zs) (h : w'.cell? a0 = some v0 ∧ w'.cell? a1 = some v1 ∧ Below W.heap.size W w') : Nums w' W.heap.size k A zs := hn.below h.2.2
theorem leS {W w' : World} {a0 a1 : Addr} {v0 v1 : Value} (h : w'.cell? a0 = some v0 ∧ w'.cell? a1 = some v1 ∧ Below W.heap.size W w') : W.heap.size ≤ w'.heap.size := h.2.2.size
theorem Same_S {W : World} {A C : Option Addr} {ps : List Int} (hn : Nums W W.heap.size .i32 A ps) (hm : Nums W W.heap.size .i32 C ps) (hl : ps.length ≤ 140737488355328) {a0 a1 : Addr} {v0 v1 : Value} (c d : Nat) {w' : World} (h : w'.cell? a0 = some v0 ∧ w'.cell? a1 = some v1 ∧ Below W.heap.size W w') :
    Calls Tryd.prog 17 #[.slice A ps.length c, .slice C ps.length d] w' fun e w'' => e = .returned (.bool true) ∧ Below w'.heap.size w' w'' :=
  Same_refl A C c d ps w' (belowS hn h) (belowS hm h) h.2.2.size h.2.2.size hl
theorem Same_nil (c d : Nat) (w : World) :
    Calls Tryd.prog 17 #[.slice none 0 c, .slice none 0 d] w fun e w' => e = .returned (.bool true) ∧ Below w.heap.size w w' :=
  Same_refl none none c d [] w (B := 0) (D := 0) Reads.none_ Reads.none_ (Nat.zero_le _) (Nat.zero_le _) (by simp)

theorem reads_bad (s : ByteArray) (n : Nat) (hg : BadAt s n) (hs : s.size ≤ 2000) (w : World) (hT : Tabs w) :
    Calls Tryd.prog 6 #[.string s] w fun e w' => e = .returned (.bool true) ∧ Below w.heap.size w w' := by
  go_enter Tryd.func6, Tryd.ntmps6
  go_wp2_with (first | (go_at_call 15; refine (Points_bad s n hg (by omega) _ hT).mono ?_; rintro e w1 ⟨rfl, hb1⟩; have hz1 := hb1.size; have hT1 := Tabs_below hT hb1 (Nat.le_refl _)) | (go_at_call 20; refine (RPoints_bad s n hg (by omega) _).mono ?_; rintro e w2 ⟨rfl, hb2⟩; obtain ⟨hc0, hc1, hf0, hf1, hz2⟩ := box2 (hb2.mono (by simp)); have hB2 := hb1.trans ((below_a1 hb2).mono hz1); have hT2 := Tabs_below hT hB2 (Nat.le_refl _)))
  clear hb1 hb2 hf0 hf1 hT1
  go_region_held3 (fun w' => w'.cell? ⟨w1.heap.size, 0, none⟩ = some (.int .i64 2) ∧ w'.cell? ⟨w1.heap.size, 1, none⟩ = some (.int .i64 n) ∧ Below w2.heap.size w2 w') (first | exact ⟨hc0, hc1, (Below.refl _ _).drew⟩ | exact keep2 (by assumption) (by assumption)) (first | (go_at_call 17; refine (Same_nil _ _ _).mono ?_; rintro e w3 ⟨rfl, hb3⟩) | (go_at_call 21; refine (LFault_pos _ (by omega) _).mono ?_; rintro e w3 ⟨rfl, hb3⟩) | (go_at_call 13; refine (Check_bad s n hg (by omega) _ (tabsS hT2 (by assumption))).mono ?_; rintro e w3 ⟨rfl, hb3⟩) | (go_at_call 19; refine (Valid_bad s n hg (by omega) _ (tabsS hT2 (by assumption))).mono ?_; rintro e w3 ⟨rfl, hb3⟩) | (go_at_call 18; refine (Count_bad s n hg (by omega) _ (tabsS hT2 (by assumption))).mono ?_; rintro e w3 ⟨rfl, hb3⟩))
  go_wp2_with (go_at_call 11; refine (awake_t _ (tabsS hT2 (by assumption))).mono ?_; rintro e w9 ⟨rfl, hb9⟩)
  go_ret
  exact ⟨rfl, finS hB2 (by assumption) hb9⟩

theorem reads_good (s : ByteArray) (ps : List Int) (hg : Good s ps) (hs : s.size ≤ 2000) (w : World) (hT : Tabs w) :
    Calls Tryd.prog 6 #[.string s] w fun e w' => e = .returned (.bool true) ∧ Below w.heap.size w w' := by
  have hl := hg.len
  have He := Lib.hid hg.eq
  have hps := hg.2
  go_enter Tryd.func6, Tryd.ntmps6
  go_wp2_with (first | (go_at_call 15; refine (Points_good s ps hg (by omega) _ hT).mono ?_; rintro e w1 ⟨A, c, rfl, hcap, hn, hb1⟩; have hz1 := hb1.size; have hT1 := Tabs_below hT hb1 (Nat.le_refl _)) | (go_at_call 20; refine (RPoints_good s ps hg (by omega) _).mono ?_; rintro e w2 ⟨A2, c2, rfl, hcap2, hn2, hb2⟩; obtain ⟨hc0, hc1, hf0, hf1, hz2⟩ := box2 (hb2.mono (by simp)); have hb3 := below_a1 hb2; have hB2 := hb1.trans (hb3.mono hz1); have hT2 := Tabs_below hT hB2 (Nat.le_refl _); have hn1 := (hn.below hb3).more (B' := w2.heap.size) (by omega)))
  clear hb1 hb2 hf0 hf1 hT1 hn hb3
  go_region_held3 (fun w' => w'.cell? ⟨w1.heap.size, 0, none⟩ = some (.int .i64 0) ∧ w'.cell? ⟨w1.heap.size, 1, none⟩ = some (.int .i64 0) ∧ Below w2.heap.size w2 w') (first | exact ⟨hc0, hc1, (Below.refl _ _).drew⟩ | exact keep2 (by assumption) (by assumption)) (first | (go_at_call 17; refine (Same_S hn1 hn2 (by omega) _ _ (by assumption)).mono ?_; rintro e w3 ⟨rfl, hb3⟩) | (go_at_call 21; refine (LFault_neg _ (by omega) _).mono ?_; rintro e w3 ⟨rfl, hb3⟩) | (go_at_call 13; refine (Check_good s ps hg (by omega) _ (tabsS hT2 (by assumption))).mono ?_; rintro e w3 ⟨rfl, hb3⟩) | (go_at_call 19; refine (Valid_good s ps hg (by omega) _ (tabsS hT2 (by assumption))).mono ?_; rintro e w3 ⟨rfl, hb3⟩) | (go_at_call 18; refine (Count_good s ps hg (by omega) _ (tabsS hT2 (by assumption))).mono ?_; rintro e w3 ⟨rfl, hb3⟩))
  go_wp2_with (first | (go_at_call 11; refine (awake_t _ hT8).mono ?_; rintro e w9 ⟨rfl, hb9⟩) | (go_at_call 8; refine (Text_good _ _ ps _ (belowS hn1 (by assumption)) (leS (by assumption)) hps (by omega)).mono ?_; rintro e w8 ⟨rfl, hb8⟩; have hB8 := finS hB2 (by assumption) hb8; have hT8 := Tabs_below hT hB8 (Nat.le_refl _); have hz8 := hB8.size))
  go_ret
  refine ⟨ret_bool ?_, hB8.trans (hb9.mono hz8)⟩
  rw [Lib.toList_data, hg.1, beq_self_eq_true]

theorem reads_law (s : ByteArray) (w : World) (hT : Tabs w) :
    Calls Tryd.prog 6 #[.string s] w fun e w' => e = .returned (.bool true) ∧ Below w.heap.size w w' := by
  by_cases hs : s.size ≤ 2000
  · rcases good_or_bad s with ⟨ps, hg⟩ | ⟨n, hg⟩
    · exact reads_good s ps hg hs w hT
    · exact reads_bad s n hg hs w hT
  · have hs2 : 2000 < s.size := by omega
    clear hs
    go_enter Tryd.func6, Tryd.ntmps6
    go_wp2_with (go_at_call 11; refine (awake_t _ hT).mono ?_; rintro e w9 ⟨rfl, hb9⟩)
    go_ret
    exact ⟨rfl, hb9⟩
end Go.Proofs.YtjepdpmkcajddaaDoor
