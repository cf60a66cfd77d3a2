/- The law WideReads returns true for every string and order of bytes; condition: the tables of utf8 lie as laid. -/
import Derived.Test.YtblcknhkjkcmjaaDoorW9
set_option maxRecDepth 100000
set_option maxHeartbeats 1000000
namespace Go.Proofs.YtblcknhkjkcmjaaDoor
open Go Go.RowKit

theorem wkeep2 {W w' w'' : World} {a0 a1 : Addr} {v0 v1 : Value} (h : w'.cell? a0 = some v0 ∧ w'.cell? a1 = some v1 ∧ Below W.heap.size W w') (hb : Below w'.heap.size w' w'') :
    w''.cell? a0 = some v0 ∧ w''.cell? a1 = some v1 ∧ Below W.heap.size W w'' :=
  ⟨wcell_keep h.1 hb, wcell_keep h.2.1 hb, h.2.2.trans (hb.mono h.2.2.size)⟩

theorem wreads_bad (s : ByteArray) (big : Bool) (n : Nat) (hg : WBadAt big s n) (hs : s.size ≤ 2000) (w : World) (hT : Tabs w) :
    Calls Tryd.prog 8 #[.string s, .bool big] w fun e w' => e = .returned (.bool true) ∧ Below w.heap.size w w' := by
  go_enter Tryd.func8, Tryd.ntmps8
  go_wp2_with (first
    | (go_at_call 25; refine (WDecode_bad big s n hg (by omega) _).mono ?_; rintro e w1 ⟨rfl, hb1⟩; have hz1 := hb1.size)
    | (go_at_call 26; refine (RDecode_bad big s n hg (by omega) _).mono ?_; rintro e w2 ⟨rfl, hb2⟩; obtain ⟨hc0, hc1, hf0, hf1, hz2⟩ := box2 (hb2.mono (by simp)); have hB2 := hb1.trans ((below_a1 hb2).mono hz1); have hT2 := Tabs_below hT hB2 (Nat.le_refl _)))
  clear hb1 hb2 hf0 hf1
  go_region_held3 (fun w' => w'.cell? ⟨w1.heap.size, 0, none⟩ = some (.int .i64 2) ∧ w'.cell? ⟨w1.heap.size, 1, none⟩ = some (.int .i64 n) ∧ Below w2.heap.size w2 w') (first | exact ⟨hc0, hc1, (Below.refl _ _).drew⟩ | exact wkeep2 (by assumption) (by assumption)) (first | (go_at_call 27; refine (LFault_pos _ (by omega) _).mono ?_; rintro e w3 ⟨rfl, hb3⟩))
  rename_i hS
  have hB3 := hB2.trans (hS.2.2.mono hB2.size)
  have hT3 := Tabs_below hT hB3 (Nat.le_refl _)
  go_wp2_with (go_at_call 24; refine (wawake_t _ hT3).mono ?_; rintro e w9 ⟨rfl, hb9⟩)
  go_ret
  exact ⟨rfl, hB3.trans (hb9.mono hB3.size)⟩

theorem wreads_good (s : ByteArray) (big : Bool) (ps : List Int) (hg : WGood big s ps) (hs : s.size ≤ 2000) (w : World) (hT : Tabs w) :
    Calls Tryd.prog 8 #[.string s, .bool big] w fun e w' => e = .returned (.bool true) ∧ Below w.heap.size w w' := by
  have He := Lib.hid hg.eq
  have hgt := good_text hg.2
  have hl4 := (len_textL ps).2
  have hlw := (len_wtext big ps).1
  have hsz : (wtext big ps).length = s.size := by rw [hg.eq]; rfl
  have hx : (⟨(textL ps).toArray⟩ : ByteArray).size = (textL ps).length := rfl
  have hE := fun (w : World) (hT : Tabs w) => WEncode_good big _ ps hgt (by omega) w hT
  rw [← He.out] at hE
  go_enter Tryd.func8, Tryd.ntmps8
  go_wp2_with (first
    | (go_at_call 25; refine (WDecode_good big s ps hg (by omega) _).mono ?_; rintro e w1 ⟨rfl, hb1⟩; have hz1 := hb1.size)
    | (go_at_call 26; refine (RDecode_good big s ps hg (by omega) _).mono ?_; rintro e w2 ⟨rfl, hb2⟩; obtain ⟨hc0, hc1, hf0, hf1, hz2⟩ := box2 (hb2.mono (by simp)); have hB2 := hb1.trans ((below_a1 hb2).mono hz1); have hT2 := Tabs_below hT hB2 (Nat.le_refl _)))
  clear hb1 hb2 hf0 hf1
  go_region_held3 (fun w' => w'.cell? ⟨w1.heap.size, 0, none⟩ = some (.int .i64 0) ∧ w'.cell? ⟨w1.heap.size, 1, none⟩ = some (.int .i64 0) ∧ Below w2.heap.size w2 w') (first | exact ⟨hc0, hc1, (Below.refl _ _).drew⟩ | exact wkeep2 (by assumption) (by assumption)) (first | (go_at_call 27; refine (LFault_neg _ (by omega) _).mono ?_; rintro e w3 ⟨rfl, hb3⟩))
  rename_i hS
  have hB3 := hB2.trans (hS.2.2.mono hB2.size)
  have hT3 := Tabs_below hT hB3 (Nat.le_refl _)
  have hz3 := hB3.size
  clear hc0 hc1 hS
  go_wp2_with (first
    | (go_at_call 28; refine (hE _ hT3).mono ?_; rintro e w4 ⟨rfl, hb4⟩; have hB4 := hB3.trans (hb4.mono hz3); have hB5 := hB4.alloc (o := .cells #[.int .i64 0, .int .i64 0] 44) hB4.size; have hT5 := Tabs_below hT hB5 (Nat.le_refl _))
    | (go_at_call 24; refine (wawake_t _ hT5).mono ?_; rintro e w6 ⟨rfl, hb6⟩; obtain ⟨hd0, hd1, _, _, hz6⟩ := box2 (hb6.mono (by simp)))
    | (go_at_call 29; refine (Bad_any _ _ _).mono ?_; rintro e w7 ⟨rfl, hb7⟩))
  have hB6 := hB5.trans (hb6.mono hB5.size)
  have hB7 := hB6.trans (hb7.mono hB6.size)
  go_ret
  exact ⟨ret_bool (by simp), hB7⟩

theorem wreads_law (s : ByteArray) (big : Bool) (w : World) (hT : Tabs w) :
    Calls Tryd.prog 8 #[.string s, .bool big] w fun e w' => e = .returned (.bool true) ∧ Below w.heap.size w w' := by
  by_cases hs : s.size ≤ 2000
  · rcases wgood_or_bad big s with ⟨ps, hg⟩ | ⟨n, hg⟩
    · exact wreads_good s big ps hg hs w hT
    · exact wreads_bad s big n hg hs w hT
  · have hs2 : 2000 < s.size := by omega
    clear hs
    go_enter Tryd.func8, Tryd.ntmps8
    go_wp2_with (go_at_call 24; refine (wawake_t _ hT).mono ?_; rintro e w9 ⟨rfl, hb9⟩)
    go_ret
    exact ⟨rfl, hb9⟩
end Go.Proofs.YtblcknhkjkcmjaaDoor
