/- The law WideWrites returns true for every string and order of bytes; condition: the tables of utf8 lie as laid. -/
import Derived.Test.YtblcknhkjkcmjaaDoorWL1
set_option maxRecDepth 100000
set_option maxHeartbeats 1000000
namespace Go.Proofs.YtblcknhkjkcmjaaDoor
open Go Go.RowKit

theorem wwrites_bad (s : ByteArray) (big : Bool) (n : Nat) (hg : BadAt s n) (hs : s.size ≤ 2000) (w : World) (hT : Tabs w) :
    Calls Tryd.prog 9 #[.string s, .bool big] w fun e w' => e = .returned (.bool true) ∧ Below w.heap.size w w' := by
  go_enter Tryd.func9, Tryd.ntmps9
  go_wp2_with (first
    | (go_at_call 28; refine (WEncode_bad big s n hg (by omega) _ hT).mono ?_; rintro e w1 ⟨rfl, hb1⟩; have hz1 := hb1.size)
    | (go_at_call 30; refine (RPoints_bad s n hg (by omega) _).mono ?_; rintro e w2 ⟨rfl, hb2⟩; obtain ⟨hc0, hc1, hf0, hf1, hz2⟩ := box2 (hb2.mono (by simp)); have hB2 := hb1.trans ((below_a1 hb2).mono hz1); have hT2 := Tabs_below hT hB2 (Nat.le_refl _)))
  clear hb1 hb2 hf0 hf1
  go_region_held3 (fun w' => w'.cell? ⟨w1.heap.size, 0, none⟩ = some (.int .i64 2) ∧ w'.cell? ⟨w1.heap.size, 1, none⟩ = some (.int .i64 n) ∧ Below w2.heap.size w2 w') (first | exact ⟨hc0, hc1, (Below.refl _ _).drew⟩ | exact wkeep2 (by assumption) (by assumption)) (first | (go_at_call 27; refine (LFault_pos _ (by omega) _).mono ?_; rintro e w3 ⟨rfl, hb3⟩))
  rename_i hS
  have hB3 := hB2.trans (hS.2.2.mono hB2.size)
  have hT3 := Tabs_below hT hB3 (Nat.le_refl _)
  go_wp2_with (go_at_call 24; refine (wawake_t _ hT3).mono ?_; rintro e w9 ⟨rfl, hb9⟩)
  go_ret
  exact ⟨rfl, hB3.trans (hb9.mono hB3.size)⟩

theorem wwrites_good (s : ByteArray) (big : Bool) (ps : List Int) (hg : Good s ps) (hs : s.size ≤ 2000) (w : World) (hT : Tabs w) :
    Calls Tryd.prog 9 #[.string s, .bool big] w fun e w' => e = .returned (.bool true) ∧ Below w.heap.size w w' := by
  have He := Lib.hid hg.eq
  have hps := hg.2
  have hgt := wgood_text big hg.2
  have hl := hg.len
  have hlw := (len_wtext big ps).2
  have hx : (⟨(wtext big ps).toArray⟩ : ByteArray).size = (wtext big ps).length := rfl
  have hD := fun (w : World) => WDecode_good big _ ps hgt (by omega) w
  rw [← He.out] at hD
  go_enter Tryd.func9, Tryd.ntmps9
  go_wp2_with (first
    | (go_at_call 28; refine (WEncode_good big s ps hg (by omega) _ hT).mono ?_; rintro e w1 ⟨rfl, hb1⟩; have hz1 := hb1.size)
    | (go_at_call 30; refine (RPoints_good s ps hg (by omega) _).mono ?_; rintro e w2 ⟨A, c, rfl, hcap, hn, hb2⟩; obtain ⟨hc0, hc1, hf0, hf1, hz2⟩ := box2 (hb2.mono (by simp)); have hB2 := hb1.trans ((below_a1 hb2).mono hz1); have hT2 := Tabs_below hT hB2 (Nat.le_refl _)))
  clear hb1 hb2 hf0 hf1
  go_region_held3 (fun w' => w'.cell? ⟨w1.heap.size, 0, none⟩ = some (.int .i64 0) ∧ w'.cell? ⟨w1.heap.size, 1, none⟩ = some (.int .i64 0) ∧ Below w2.heap.size w2 w') (first | exact ⟨hc0, hc1, (Below.refl _ _).drew⟩ | exact wkeep2 (by assumption) (by assumption)) (first | (go_at_call 27; refine (LFault_neg _ (by omega) _).mono ?_; rintro e w3 ⟨rfl, hb3⟩))
  rename_i wS hS
  have hn3 := hn.below hS.2.2
  have hz23 := hS.2.2.size
  have hB3 := hB2.trans (hS.2.2.mono hB2.size)
  have hT3 := Tabs_below hT hB3 (Nat.le_refl _)
  have hz3 := hB3.size
  clear hc0 hc1 hS hn
  go_wp2_with (first
    | (go_at_call 25; refine (hD _).mono ?_; rintro e w4 ⟨rfl, hb4⟩; have hB4 := hB3.trans (hb4.mono hz3); have hB5 := hB4.alloc (o := .cells #[.int .i64 0, .int .i64 0] 44) hB4.size; have hT5 := Tabs_below hT hB5 (Nat.le_refl _); have hb34 := (hb4.mono hz23).alloc (o := .cells #[.int .i64 0, .int .i64 0] 44) (Nat.le_trans hz23 hb4.size))
    | (go_at_call 24; refine (wawake_t _ hT5).mono ?_; rintro e w6 ⟨rfl, hb6⟩; obtain ⟨hd0, hd1, _, _, hz6⟩ := box2 (hb6.mono (by simp)); have hb36 := hb34.trans (hb6.mono (Nat.le_trans hz23 hb34.size)); have hn6 := hn3.below hb36)
    | (go_at_call 31; refine (REncode_good big _ _ ps _ hn6 (Nat.le_trans hz23 hb36.size) hps (by omega)).mono ?_; rintro e w7 ⟨rfl, hb7⟩; have hd0' := wcell_keep hd0 hb7; have hd1' := wcell_keep hd1 hb7)
    | (go_at_call 29; refine (Bad_any _ _ _).mono ?_; rintro e w8 ⟨rfl, hb8⟩))
  have hB6 := hB5.trans (hb6.mono hB5.size)
  have hB7 := hB6.trans (hb7.mono hB6.size)
  have hB8 := hB7.trans (hb8.mono hB7.size)
  go_ret
  exact ⟨ret_bool (by simp), hB8⟩

theorem wwrites_law (s : ByteArray) (big : Bool) (w : World) (hT : Tabs w) :
    Calls Tryd.prog 9 #[.string s, .bool big] w fun e w' => e = .returned (.bool true) ∧ Below w.heap.size w w' := by
  by_cases hs : s.size ≤ 2000
  · rcases good_or_bad s with ⟨ps, hg⟩ | ⟨n, hg⟩
    · exact wwrites_good s big ps hg hs w hT
    · exact wwrites_bad s big n hg hs w hT
  · have hs2 : 2000 < s.size := by omega
    clear hs
    go_enter Tryd.func9, Tryd.ntmps9
    go_wp2_with (go_at_call 24; refine (wawake_t _ hT).mono ?_; rintro e w9 ⟨rfl, hb9⟩)
    go_ret
    exact ⟨rfl, hb9⟩
end Go.Proofs.YtblcknhkjkcmjaaDoor
