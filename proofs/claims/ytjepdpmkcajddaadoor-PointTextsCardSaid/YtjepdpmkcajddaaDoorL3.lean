/- The laws of layer 2, walked: PointTexts. -/
import Derived.Test.YtjepdpmkcajddaaDoorL2
namespace Go.Proofs.YtjepdpmkcajddaaDoor
open Go Go.RowKit
set_option maxRecDepth 100000

def TextsRel (n : Nat) (i : Value) : Prop := ∃ k : Nat, k ≤ n ∧ i = .int .i64 k
theorem texts_good (A : Option Addr) (c : Nat) (ps : List Int) (w : World) (hn : Nums w w.heap.size .i32 A ps) (hps : ∀ p ∈ ps, scalarB p = true) (hl : ps.length ≤ 500) (hT : Tabs w) :
    Calls Tryd.prog 5 #[.slice A ps.length c] w fun e w' => e = .returned (.bool true) ∧ Below w.heap.size w w' := by
  have hg := good_text hps
  have hlt := (len_textL ps).2
  have hsz : (⟨(textL ps).toArray⟩ : ByteArray).size ≤ 2000 := by rw [hg.size]; omega
  go_enter Tryd.func5, Tryd.ntmps5
  go_wp2_with (first | (go_at_call 8; refine (Text_good _ _ ps _ hn (Nat.le_refl _) hps (by omega)).mono ?_; rintro e w1 ⟨rfl, hb1⟩; have hz1 := hb1.size; have hT1 := Tabs_below hT hb1 (Nat.le_refl _); have hn1 := hn.below hb1))
  go_loop [20] (fun i => TextsRel ps.length i) (fun i => ps.length - (intOf i).toNat)
  case atStart => exact ⟨0, Nat.zero_le _, rfl⟩
  case round =>
    obtain ⟨k, hk, rfl⟩ := hrel
    by_cases hlt2 : k < ps.length
    · obtain ⟨ad, p, rfl, _, hc, hp, hm⟩ := hn1.get hlt2
      have hs := hps p hm
      go_wp2_with (first | (go_at_call 10; refine (RScalar_any _ _).mono ?_; rintro e w' ⟨rfl, rfl⟩))
      go_round
      case rel => exact ⟨k + 1, by omega, by go_num⟩
      case measure => simp [intOf]; omega
    · go_wp2_with (first | (go_at_call 15; refine (Points_good _ ps hg (by omega) _ hT1).mono ?_; rintro e w2 ⟨A2, c2, rfl, hcap, hn2, hb2⟩; have hB2 := hb1.trans (hb2.mono hz1); have hz2 := hB2.size; have hT2 := Tabs_below hT hB2 (Nat.le_refl _)) | (go_at_call 11; refine (awake_t _ (tabs_alloc hT2 _)).mono ?_; rintro e w3 ⟨rfl, hb3⟩; obtain ⟨hc0, hc1, hf0, hf1, hz3⟩ := box2 (hb3.mono (by simp)); have hb3' := below_a1 hb3; have hB3 := hB2.trans (hb3'.mono hz2); have hz3' := hB3.size) | (go_at_call 16; refine (RText_good _ _ ps _ (hn.below hB3) (by omega) hps (by omega)).mono ?_; rintro e w4 ⟨rfl, hb4⟩; have hc0' := cell_keep hc0 hb4; have hc1' := cell_keep hc1 hb4; have hB4 := hB3.trans (hb4.mono hz3'); have hz4 := hB4.size; have hz24 := hb3'.size; have hz34 := hb4.size) | (go_at_call 17; refine (Same_refl _ _ _ _ ps _ ((hn2.below hb3').below (hb4.mono hz24)) (hn.below hB4) (by omega) hz4 (by omega)).mono ?_; rintro e w5 ⟨rfl, hb5⟩; have hd0 := cell_keep hc0' hb5; have hd1 := cell_keep hc1' hb5; have hB5 := hB4.trans (hb5.mono hz4); have hz5 := hB5.size) | (go_at_call 14; refine (Bad_any _ _ _).mono ?_; rintro e w6 ⟨rfl, hb6⟩; have hB6 := hB5.trans (hb6.mono hz5); have hz6 := hB6.size; have hT6 := Tabs_below hT hB6 (Nat.le_refl _)) | (go_at_call 18; refine (Count_good _ ps hg (by omega) _ hT6).mono ?_; rintro e w7 ⟨rfl, hb7⟩; have hB7 := hB6.trans (hb7.mono hz6); have hz7 := hB7.size; have hT7 := Tabs_below hT hB7 (Nat.le_refl _)) | (go_at_call 19; refine (Valid_good _ ps hg (by omega) _ hT7).mono ?_; rintro e w8 ⟨rfl, hb8⟩; have hB8 := hB7.trans (hb8.mono hz7)))
      go_ret
      exact ⟨rfl, hB8⟩

theorem texts_bad (A : Option Addr) (c : Nat) (ps : List Int) (w : World) (hn : Nums w w.heap.size .i32 A ps) (hps : ¬ ∀ p ∈ ps, scalarB p = true) (hl : ps.length ≤ 500) (hT : Tabs w) :
    Calls Tryd.prog 5 #[.slice A ps.length c] w fun e w' => e = .returned (.bool true) ∧ Below w.heap.size w w' := by
  go_enter Tryd.func5, Tryd.ntmps5
  go_wp2_with (first | (go_at_call 8; refine (Text_bad _ _ ps _ hn hps (by omega)).mono ?_; rintro e w1 ⟨rfl, rfl⟩))
  go_loop [20] (fun i => AllRel ps i) (fun i => ps.length - (intOf i).toNat)
  case atStart => exact ⟨0, Nat.zero_le _, rfl, by simp⟩
  case round =>
    obtain ⟨k, hk, rfl, hall⟩ := hrel
    by_cases hlt2 : k < ps.length
    · obtain ⟨ad, p, rfl, _, hc, hp, hm⟩ := hn.get hlt2
      by_cases hs : scalarB p = true
      · have Hall : Hid (∀ q ∈ ps.take (k + 1), scalarB q = true) := by
          rw [take_getD hlt2, hp.out]
          intro q hq
          rcases List.mem_append.1 hq with h | h
          · exact hall q h
          · rw [List.mem_singleton.1 h]; exact hs
        clear hps hall hn
        go_wp2_with (first | (go_at_call 10; refine (RScalar_any _ _).mono ?_; rintro e w' ⟨rfl, rfl⟩))
        go_round
        case rel => exact ⟨k + 1, by omega, by go_num, Hall.out⟩
        case measure => simp [intOf]; omega
      · have hs2 : scalarB p = false := by simpa using hs
        clear hps hall hn hs
        go_wp2_with (first | (go_at_call 10; refine (RScalar_any _ _).mono ?_; rintro e w' ⟨rfl, rfl⟩) | (go_at_call 11; refine (awake_t _ hT).mono ?_; rintro e w3 ⟨rfl, hb3⟩))
        go_ret
        exact ⟨rfl, hb3⟩
    · exfalso
      have hk2 : k = ps.length := by omega
      subst hk2
      rw [List.take_length] at hall
      exact hps hall

theorem texts_law (A : Option Addr) (c : Nat) (ps : List Int) (w : World) (hn : Nums w w.heap.size .i32 A ps) (hT : Tabs w) :
    Calls Tryd.prog 5 #[.slice A ps.length c] w fun e w' => e = .returned (.bool true) ∧ Below w.heap.size w w' := by
  by_cases hl : ps.length ≤ 500
  · by_cases hps : ∀ p ∈ ps, scalarB p = true
    · exact texts_good A c ps w hn hps hl hT
    · exact texts_bad A c ps w hn hps hl hT
  · have hl2 : 500 < ps.length := by omega
    clear hl
    go_enter Tryd.func5, Tryd.ntmps5
    go_wp2_with (go_at_call 11; refine (awake_t _ hT).mono ?_; rintro e w9 ⟨rfl, hb9⟩)
    go_ret
    exact ⟨rfl, hb9⟩
end Go.Proofs.YtjepdpmkcajddaaDoor
