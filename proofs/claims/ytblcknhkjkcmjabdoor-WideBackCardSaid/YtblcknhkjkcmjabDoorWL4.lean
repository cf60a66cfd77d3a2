/- The law WideBack returns true for every string; condition: the tables of utf8 lie as laid. -/
import Derived.Test.YtblcknhkjkcmjabDoorW9
set_option maxRecDepth 100000
set_option maxHeartbeats 1000000
namespace Go.Proofs.YtblcknhkjkcmjabDoor
open Go Go.RowKit

theorem wkeepB2 {W w' w'' : World} {a0 a1 : Addr} {v0 v1 : Value} (h : w'.cell? a0 = some v0 ∧ w'.cell? a1 = some v1 ∧ Below W.heap.size W w') (hb : Below w'.heap.size w' w'') :
    w''.cell? a0 = some v0 ∧ w''.cell? a1 = some v1 ∧ Below W.heap.size W w'' :=
  ⟨wcell_keep h.1 hb, wcell_keep h.2.1 hb, h.2.2.trans (hb.mono h.2.2.size)⟩

theorem wback_bad (s : ByteArray) (n : Nat) (hg : BadAt s n) (hs : s.size ≤ 2000) (w : World) (hT : Tabs w) :
    Calls Tryd.prog 3 #[.string s] w fun e w' => e = .returned (.bool true) ∧ Below w.heap.size w w' := by
  go_enter Tryd.func3, Tryd.ntmps3
  go_wp2_with (first
    | (go_at_call 5; refine (RPoints_bad s n hg (by omega) _).mono ?_; rintro e w1 ⟨rfl, hb1⟩; have hz1 := hb1.size; have hT1 := Tabs_below hT hb1 (Nat.le_refl _))
    | (go_at_call 6; refine (WithMark_bad s n hg (by omega) _ hT1).mono ?_; rintro e w2 ⟨rfl, hb2⟩))
  have hB2 := hb1.trans (hb2.mono hz1)
  have hB3 := hB2.alloc (o := .cells #[.int .i64 2, .int .i64 n] 28) hB2.size
  have hc0 : (w2.alloc (.cells #[.int .i64 2, .int .i64 n] 28)).cell? ⟨w2.heap.size, 0, none⟩ = some (.int .i64 2) := cell_two_new w2 _ _ 28 0 _ rfl
  have hc1 : (w2.alloc (.cells #[.int .i64 2, .int .i64 n] 28)).cell? ⟨w2.heap.size, 1, none⟩ = some (.int .i64 n) := cell_two_new w2 _ _ 28 1 _ rfl
  have hT3 := Tabs_below hT hB3 (Nat.le_refl _)
  generalize w2.alloc (.cells #[.int .i64 2, .int .i64 n] 28) = W at *
  go_region_held3 (fun w' => w'.cell? ⟨w2.heap.size, 0, none⟩ = some (.int .i64 2) ∧ w'.cell? ⟨w2.heap.size, 1, none⟩ = some (.int .i64 n) ∧ Below W.heap.size W w') (first | exact ⟨hc0, hc1, (Below.refl _ _).drew⟩ | exact wkeepB2 (by assumption) (by assumption)) (first | (go_at_call 7; refine (LFault_pos _ (by omega) _).mono ?_; rintro e w3 ⟨rfl, hb3⟩) | (go_at_call 4; refine (wawake_t _ (Tabs_below hT3 (And.right (And.right (by assumption))) (Nat.le_refl _))).mono ?_; rintro e w9 ⟨rfl, hb9⟩))
  rename_i hS
  go_wp2_with fail
  go_ret
  exact ⟨rfl, hB3.trans (hS.2.2.mono hB3.size)⟩

def CountRel (ps : List Int) (n i : Value) : Prop := ∃ k : Nat, k ≤ ps.length ∧ i = .int .i64 k ∧ n = .int .i64 (2 + ((wtext false (ps.take k)).length : Int))

theorem back_mark (l : List UInt8) : isMark (⟨([255, 254] ++ l).toArray⟩ : ByteArray).data.toList = true := by simp [isMark]
theorem back_big (l : List UInt8) : isBig (⟨([255, 254] ++ l).toArray⟩ : ByteArray).data.toList = false := by simp [isBig]
theorem back_behind (l : List UInt8) : (behind (⟨([255, 254] ++ l).toArray⟩ : ByteArray)).data.toList = l := by
  unfold behind
  rw [extract_all]
  simp
theorem back_size (l : List UInt8) : (⟨([255, 254] ++ l).toArray⟩ : ByteArray).size = 2 + l.length := by
  simp [ByteArray.size]
  omega

theorem wback_good (s : ByteArray) (ps : List Int) (hg : Good s ps) (hs : s.size ≤ 2000) (w : World) (hT : Tabs w) :
    Calls Tryd.prog 3 #[.string s] w fun e w' => e = .returned (.bool true) ∧ Below w.heap.size w w' := by
  have He := Lib.hid hg.eq
  have hps := hg.2
  have hl := hg.len
  have hlw := (len_wtext false ps).2
  have hXs := back_size (wtext false ps)
  have hM := fun (w : World) => Marked_good (⟨([255, 254] ++ wtext false ps).toArray⟩ : ByteArray) ps (back_mark _) (by rw [back_big]; exact ⟨by rw [back_behind]; simp, hps⟩) (by rw [back_size]; omega) w
  have hW := fun (w : World) hT => WithMark_good s ps hg (by omega) w hT
  rw [← He.out] at hM
  generalize (⟨([255, 254] ++ wtext false ps).toArray⟩ : ByteArray) = X at *
  go_enter Tryd.func3, Tryd.ntmps3
  go_wp2_with (first
    | (go_at_call 5; refine (RPoints_good s ps hg (by omega) _).mono ?_; rintro e w1 ⟨A, c, rfl, hcap, hn, hb1⟩; have hz1 := hb1.size; have hT1 := Tabs_below hT hb1 (Nat.le_refl _))
    | (go_at_call 6; refine (hW _ hT1).mono ?_; rintro e w2 ⟨rfl, hb2⟩))
  have hB2 := hb1.trans (hb2.mono hz1)
  have hn2 := hn.below hb2
  have hB3 := hB2.alloc (o := .cells #[.int .i64 0, .int .i64 0] 28) hB2.size
  have hn3 : Nums (w2.alloc (.cells #[.int .i64 0, .int .i64 0] 28)) w1.heap.size .i32 A ps := Reads.alloc hn2 hb2.size _
  have hc0 : (w2.alloc (.cells #[.int .i64 0, .int .i64 0] 28)).cell? ⟨w2.heap.size, 0, none⟩ = some (.int .i64 0) := cell_two_new w2 _ _ 28 0 _ rfl
  have hc1 : (w2.alloc (.cells #[.int .i64 0, .int .i64 0] 28)).cell? ⟨w2.heap.size, 1, none⟩ = some (.int .i64 0) := cell_two_new w2 _ _ 28 1 _ rfl
  have hT3 := Tabs_below hT hB3 (Nat.le_refl _)
  clear hn hn2
  generalize w2.alloc (.cells #[.int .i64 0, .int .i64 0] 28) = W at *
  go_loop [7, 41] (fun n i => CountRel ps n i) (fun _ i => ps.length - (intOf i).toNat)
  case atStart => exact ⟨0, Nat.zero_le _, rfl, rfl⟩
  case round =>
    obtain ⟨k, hk, rfl, rfl⟩ := hrel
    have h4 := (len_wtext false (ps.take k)).2
    rw [List.length_take] at h4
    by_cases hlt : k < ps.length
    · obtain ⟨ad, p, rfl, _, hc, hp, hm⟩ := hn3.get hlt
      have hsc := scalarB_iff.1 (hps p hm)
      have hnext : Hid ((wtext false (ps.take (k + 1))).length = (wtext false (ps.take k)).length + if p < 65536 then 2 else 4) := by
        rw [take_getD hlt, hp.out, wtext_snoc, List.length_append, wenc_len]; rfl
      clear hn3 hps
      by_cases hlow : p < 65536
      · go_wp2_with fail
        go_round
        case rel => exact ⟨k + 1, by omega, by go_num, by rw [hnext.out, if_pos hlow]; congr 1⟩
        case measure => simp [intOf]; omega
      · go_wp2_with fail
        go_round
        case rel => exact ⟨k + 1, by omega, by go_num, by rw [hnext.out, if_neg hlow]; congr 1⟩
        case measure => simp [intOf]; omega
    · have hk2 : k = ps.length := by omega
      subst hk2
      rw [List.take_length] at h4 ⊢
      clear hn3 hps
      go_wp2_with (first
        | (go_at_call 8; refine (hM _).mono ?_; rintro e w4 ⟨rfl, hb4⟩; have hz3 := hB3.size; have hd0 := wcell_keep hc0 hb4; have hd1 := wcell_keep hc1 hb4; have hB4 := hB3.trans (hb4.mono hz3); have hB5 := hB4.alloc (o := .cells #[.int .i64 0, .int .i64 0] 28) hB4.size; have hT5 := Tabs_below hT hB5 (Nat.le_refl _); have he0 := wcell_keep hd0 (Below.alloc (Below.refl w4.heap.size w4) (Nat.le_refl _) (.cells #[.int .i64 0, .int .i64 0] 28)); have he1 := wcell_keep hd1 (Below.alloc (Below.refl w4.heap.size w4) (Nat.le_refl _) (.cells #[.int .i64 0, .int .i64 0] 28)); clear hc0 hc1 hd0 hd1)
        | (go_at_call 4; refine (wawake_t _ hT5).mono ?_; rintro e w6 ⟨rfl, hb6⟩; have hf0 := wcell_keep he0 hb6; have hf1 := wcell_keep he1 hb6; obtain ⟨hg0, hg1, _, _, hz6⟩ := box2 (hb6.mono (by simp)))
        | (go_at_call 9; refine (Bad_any _ _ _).mono ?_; first | (have hx := hf0; clear hx hf0; rintro e w7 ⟨rfl, hb7⟩; have hk0 := wcell_keep hg0 hb7; have hk1 := wcell_keep hg1 hb7) | (rintro e w8 ⟨rfl, hb8⟩)))
      have hB6 := hB5.trans (hb6.mono hB5.size)
      have hB7 := hB6.trans (hb7.mono hB6.size)
      have hB8 := hB7.trans (hb8.mono hB7.size)
      go_ret
      exact ⟨ret_bool (by simp), hB8⟩

theorem wback_law (s : ByteArray) (w : World) (hT : Tabs w) :
    Calls Tryd.prog 3 #[.string s] w fun e w' => e = .returned (.bool true) ∧ Below w.heap.size w w' := by
  by_cases hs : s.size ≤ 2000
  · rcases good_or_bad s with ⟨ps, hg⟩ | ⟨n, hg⟩
    · exact wback_good s ps hg hs w hT
    · exact wback_bad s n hg hs w hT
  · have hs2 : 2000 < s.size := by omega
    clear hs
    go_enter Tryd.func3, Tryd.ntmps3
    go_wp2_with (go_at_call 4; refine (wawake_t _ hT).mono ?_; rintro e w9 ⟨rfl, hb9⟩)
    go_ret
    exact ⟨rfl, hb9⟩
end Go.Proofs.YtblcknhkjkcmjabDoor
