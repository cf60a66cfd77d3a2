/- The laws of chapter 07, walked: WansungSigns, WansungBytes; conditions: the table of math/bits lies as laid; the cell of the library's MaxLen holds some int. -/
import Derived.Test.YtllmjlmeheohlaaDoorSL2
import Derived.Test.YtllmjlmeheohlaaDoorLin
set_option maxRecDepth 100000
set_option maxHeartbeats 1000000
namespace Go.Proofs.YtllmjlmeheohlaaDoor
open Go Go.RowKit

theorem byte_at (n : Int) (h : 0 ≤ n ∧ n ≤ 255) : ((n.toNat.toUInt8).toNat : Int) = n := by
  have : n.toNat.toUInt8.toNat = n.toNat % 256 := rfl
  omega
theorem two_at (x y : UInt8) : (⟨#[x, y]⟩ : ByteArray).size = 2 ∧ (∀ h : 0 < (⟨#[x, y]⟩ : ByteArray).size, (⟨#[x, y]⟩ : ByteArray)[0]'h = x) ∧ (∀ h : 1 < (⟨#[x, y]⟩ : ByteArray).size, (⟨#[x, y]⟩ : ByteArray)[1]'h = y) :=
  ⟨rfl, fun _ => rfl, fun _ => rfl⟩
theorem signs_law (lead b : Int) (hl : 0 ≤ lead ∧ lead ≤ 255) (hb : 0 ≤ b ∧ b ≤ 255) (w : World) (hD : DB w) (hm : ML w) :
    Calls Tryd.prog 5 #[.int .u8 lead, .int .u8 b] w fun e w' => e = .returned (.bool true) ∧ Below w.heap.size w w' := by
  obtain ⟨p, hp⟩ := sign_ex lead b
  have hs := fun w => Sign_at hp hl hb w
  have hr := fun w => RSign_at hp hl hb w
  by_cases h0 : p = 0
  · subst h0
    have e : ((0 : Int) != 0) = false := rfl
    rw [e] at hs
    clear e hp
    obtain ⟨l0, l1⟩ := hl
    obtain ⟨b0, b1⟩ := hb
    go_enter Tryd.func5, Tryd.ntmps5
    go_wp2_with (first | (go_at_call 15; refine (hs _ hD).mono ?_; rintro e w1 ⟨rfl, hb1⟩) | (go_at_call 16; refine (hr _).mono ?_; rintro e w2 ⟨rfl, hb2⟩; have hB2 := hb1.trans (hb2.mono hb1.size)) | (go_at_call 9; refine (sawake_b hD hm hB2).mono ?_; rintro e w6 ⟨rfl, hB6⟩))
    go_ret
    exact ⟨rfl, hB6⟩
  · have hc := sign_code hp h0 hb
    have hrng : -2147483648 ≤ p ∧ p ≤ 2147483647 := by
      by_cases hsy : 44032 ≤ p ∧ p ≤ 55203
      · omega
      · have : codeW p = lead * 256 + b := by rw [← hc]; unfold codeP; rw [if_neg hsy]
        obtain ⟨l', b', g1, g2, g3, g4, g5, _, g6⟩ := codeW_hit (p := p) (by omega)
        have := other_facts l' b' g1 (by omega)
        omega
    have hby := fun w => Bytes_any p hrng w
    unfold BPost at hby
    have hc0 : 0 ≤ lead * 256 + b := by omega
    rw [hc, bytesP_at hc0, decide_eq_true hc0, show (lead * 256 + b) / 256 = lead by omega, show (lead * 256 + b) % 256 = b by omega] at hby
    obtain ⟨t1, t2, t3⟩ := two_at lead.toNat.toUInt8 b.toNat.toUInt8
    have u1 := byte_at lead hl
    have u2 := byte_at b hb
    have e : (p != 0) = true := by simpa using h0
    rw [e] at hs
    generalize lead.toNat.toUInt8 = x at *
    generalize b.toNat.toUInt8 = y at *
    clear hp hc hc0
    obtain ⟨l0, l1⟩ := hl
    obtain ⟨b0, b1⟩ := hb
    go_enter Tryd.func5, Tryd.ntmps5
    go_wp2_with (first | (go_at_call 15; refine (hs _ hD).mono ?_; rintro e w1 ⟨rfl, hb1⟩) | (go_at_call 16; refine (hr _).mono ?_; rintro e w2 ⟨rfl, hb2⟩; have hB2 := hb1.trans (hb2.mono hb1.size)) | (go_at_call 17; refine (hby _ (ML_below hm hB2 (Nat.le_refl _))).mono ?_; rintro e w3 ⟨rfl, hb3⟩; have hB3 := hB2.trans (hb3.mono hB2.size)) | (go_at_call 9; refine (sawake_b hD hm hB3).mono ?_; rintro e w6 ⟨rfl, hB6⟩))
    go_ret
    exact ⟨rfl, hB6⟩
theorem bytes_syl (n : Nat) (hn : n < 11172) (w : World) (hD : DB w) (hm : ML w) :
    Calls Tryd.prog 6 #[.int .i32 (44032 + (n : Int))] w fun e w' => e = .returned (.bool true) ∧ Below w.heap.size w w' := by
  have hby := fun w => Bytes_any (44032 + (n : Int)) (by omega) w
  unfold BPost at hby
  obtain ⟨hc0, hc1⟩ := code_syl_bd hn
  obtain ⟨p, hp⟩ := sign_ex (codeP (44032 + n) / 256) (codeP (44032 + n) % 256)
  have hpe := code_sign hn hp
  rw [hpe] at hp
  clear hpe p
  generalize codeP (44032 + (n : Int)) = c at *
  rw [bytesP_at hc0, decide_eq_true hc0] at hby
  have hs := fun w => Sign_at hp (by omega) (by omega) w
  have hr := fun w => RSign_at hp (by omega) (by omega) w
  have e : ((44032 : Int) + n != 0) = true := by simp; omega
  rw [e] at hs
  have u1 := byte_at (c / 256) (by omega)
  have u2 := byte_at (c % 256) (by omega)
  obtain ⟨t1, t2, t3⟩ := two_at (c / 256).toNat.toUInt8 (c % 256).toNat.toUInt8
  generalize (c / 256).toNat.toUInt8 = x at *
  generalize (c % 256).toNat.toUInt8 = y at *
  rw [← u1, ← u2] at hs hr
  have h1 : (44032 : Int) ≤ 44032 + n := by omega
  have h2 : (44032 : Int) + n ≤ 55203 := by omega
  clear hp hc0 hc1 u1 u2 e
  go_enter Tryd.func6, Tryd.ntmps6
  go_wp2_with (first | (go_at_call 17; refine (hby _ hm).mono ?_; rintro e w3 ⟨rfl, hb3⟩))
  have hD3 := DB_below hD hb3 (Nat.le_refl _)
  have hm3 := ML_below hm hb3 (Nat.le_refl _)
  refine wp_region_lin (fun _ => True) [(0, true), (1, true), (2, true), (3, true), (4, false), (5, true), (6, true), (7, true), (8, true), (9, true)] (by kernel_rfl) (by kernel_rfl) (by kernel_rfl) (Nat.le_of_ble_eq_true rfl) (fun _ _ d _ _ h => by cases d <;> exact h) trivial ?_
  iterate 1 (refine' lin_pure rfl (by rfl) _ (fun w hSw => _) _; rotate_left; (go_simp; try with_reducible rfl); try simp only [Act.put, List.setIfInBounds_toArray, List.set_cons_zero, List.set_cons_succ])
  refine lin_pure rfl (by rfl) (.int .u8 (x.toNat : Int)) (fun w hSw => by go_simp) ?_
  try simp only [Act.put, List.setIfInBounds_toArray, List.set_cons_zero, List.set_cons_succ]
  iterate 1 (refine' lin_pure rfl (by rfl) _ (fun w hSw => _) _; rotate_left; (go_simp; try with_reducible rfl); try simp only [Act.put, List.setIfInBounds_toArray, List.set_cons_zero, List.set_cons_succ])
  refine lin_pure rfl (by rfl) (.int .u8 (y.toNat : Int)) (fun w hSw => by go_simp) ?_
  try simp only [Act.put, List.setIfInBounds_toArray, List.set_cons_zero, List.set_cons_succ]
  refine lin_eff rfl (by rfl) (fun K hK => ?_)
  go_simp
  refine (hs _ (DB_below hD3 ((Below.refl w3.heap.size w3).drew) (Nat.le_refl _))).mono ?_
  rintro e w4 ⟨rfl, hb4⟩
  have hb4' : Below w3.heap.size w3 w4 := (Below.refl w3.heap.size w3).drew.trans (hb4.mono (Nat.le_refl _))
  have hB4 := hb3.trans (hb4'.mono hb3.size)
  go_wp2_with fail
  refine hK.out _ _ trivial ?_
  clear hK K
  iterate 5 (refine' lin_pure rfl (by rfl) _ (fun w hSw => _) _; rotate_left; (go_simp; try with_reducible rfl); try simp only [Act.put, List.setIfInBounds_toArray, List.set_cons_zero, List.set_cons_succ])
  refine lin_nil ?_
  go_wp2_with fail
  refine wp_region_lin (fun _ => True) [(0, false), (1, true), (2, true), (3, true), (4, true), (5, true), (6, true), (7, true), (8, true), (9, true), (10, true), (11, true), (12, true), (13, true), (14, true), (15, true), (17, true), (16, false), (18, true), (19, true), (20, true)] (by kernel_rfl) (by kernel_rfl) (by kernel_rfl) (Nat.le_of_ble_eq_true rfl) (fun _ _ d _ _ h => by cases d <;> exact h) trivial ?_
  refine lin_eff rfl (by rfl) (fun K hK => ?_)
  go_simp
  refine (sawake_b hD hm hB4.drew).mono ?_
  rintro e w5 ⟨rfl, hB5⟩
  go_wp2_with fail
  refine hK.out _ _ trivial ?_
  clear hK K
  iterate 10 (refine' lin_pure rfl (by rfl) _ (fun w hSw => _) _; rotate_left; (go_simp; try with_reducible rfl); try simp only [Act.put, List.setIfInBounds_toArray, List.set_cons_zero, List.set_cons_succ])
  refine lin_pure rfl (by rfl) (.int .u8 (x.toNat : Int)) (fun w hSw => by go_simp) ?_
  try simp only [Act.put, List.setIfInBounds_toArray, List.set_cons_zero, List.set_cons_succ]
  refine lin_pure rfl (by rfl) (.int .i64 (x.toNat : Int)) (fun w hSw => by go_simp; try rw [IntWalk.i64_in _ (by have := x.toNat_lt; omega)]) ?_
  try simp only [Act.put, List.setIfInBounds_toArray, List.set_cons_zero, List.set_cons_succ]
  iterate 1 (refine' lin_pure rfl (by rfl) _ (fun w hSw => _) _; rotate_left; (go_simp; try with_reducible rfl); try simp only [Act.put, List.setIfInBounds_toArray, List.set_cons_zero, List.set_cons_succ])
  refine lin_pure rfl (by rfl) (.int .u8 (y.toNat : Int)) (fun w hSw => by go_simp) ?_
  try simp only [Act.put, List.setIfInBounds_toArray, List.set_cons_zero, List.set_cons_succ]
  refine lin_pure rfl (by rfl) (.int .i64 (y.toNat : Int)) (fun w hSw => by go_simp; try rw [IntWalk.i64_in _ (by have := y.toNat_lt; omega)]) ?_
  try simp only [Act.put, List.setIfInBounds_toArray, List.set_cons_zero, List.set_cons_succ]
  iterate 1 (refine' lin_pure rfl (by rfl) _ (fun w hSw => _) _; rotate_left; (go_simp; try with_reducible rfl); try simp only [Act.put, List.setIfInBounds_toArray, List.set_cons_zero, List.set_cons_succ])
  refine lin_eff rfl (by rfl) (fun K hK => ?_)
  go_simp
  refine (hr _).mono ?_
  rintro e w6 ⟨rfl, hb6⟩
  have hB6 := hB5.trans (hb6.mono hB5.size)
  go_wp2_with fail
  refine hK.out _ _ trivial ?_
  clear hK K
  iterate 3 (refine' lin_pure rfl (by rfl) _ (fun w hSw => _) _; rotate_left; (go_simp; try with_reducible rfl); try simp only [Act.put, List.setIfInBounds_toArray, List.set_cons_zero, List.set_cons_succ])
  refine lin_nil ?_
  go_wp2_with fail
  go_ret
  exact ⟨rfl, hB6⟩
theorem RowCode_at {p : Int} (hp : 0 < p) (w : World) :
    Calls Tryd.prog 18 #[.int .i32 p] w fun e w' => e = .returned (.int .i64 (if 0 ≤ codeW p then codeW p else -1)) ∧ Below w.heap.size w w' :=
  (RowCode_any p w).mono fun e w' ⟨c, h1, h2, h3⟩ => by
    refine ⟨?_, h3⟩
    rw [h1]
    rcases rc_code h2 hp with ⟨a, b⟩ | ⟨a, b⟩
    · rw [if_neg (by omega)]
      rcases h2 with ⟨l, b, g1, g2, g3, g4, g5, rfl⟩ | ⟨rfl, _⟩
      · omega
      · rfl
    · rw [if_pos (by omega), b]
theorem bytes_out (p : Int) (hp : p < 44032 ∨ 55203 < p) (hrng : -2147483648 ≤ p ∧ p ≤ 2147483647) (w : World) (hD : DB w) (hm : ML w) :
    Calls Tryd.prog 6 #[.int .i32 p] w fun e w' => e = .returned (.bool true) ∧ Below w.heap.size w w' := by
  have hby := fun w => Bytes_any p hrng w
  unfold BPost codeP at hby
  rw [if_neg (by omega)] at hby
  have hbd := codeW_bd p
  have hns : decide ((44032 : Int) ≤ p) = false ∨ (decide ((44032 : Int) ≤ p) = true ∧ decide (p ≤ 55203) = false) := by
    rcases hp with h | h
    · left; simp; omega
    · right; simp; omega
  by_cases h0 : p ≤ 0
  · have hc := codeW_neg h0
    have e1 : decide (0 ≤ codeW p) = false := by simp; omega
    have e2 : bytesP (codeW p) = ⟨#[]⟩ := by unfold bytesP; rw [if_pos hc]
    rw [e1, e2] at hby
    have d0 : decide (0 < p) = false := by simp; omega
    have d1 : ¬ (44032 : Int) ≤ p := by omega
    clear hns e1 e2 hc hbd hp
    go_enter Tryd.func6, Tryd.ntmps6
    go_wp2_with (first | (go_at_call 17; refine (hby _ hm).mono ?_; rintro e w3 ⟨rfl, hb3⟩) | (go_at_call 9; refine (sawake_b hD hm hb3).mono ?_; rintro e w6 ⟨rfl, hB6⟩))
    go_ret
    exact ⟨rfl, hB6⟩
  · have hrc := fun w => RowCode_at (p := p) (by omega) w
    have d0 : 0 < p := by omega
    clear hp h0
    generalize codeW p = c at *
    by_cases hc : 0 ≤ c
    · rw [if_pos hc] at hrc
      rw [decide_eq_true hc, bytesP_at hc] at hby
      have hcv := fun w => conv2 (P := Tryd.prog) 37 9 5 Tryd.underlying37 Tryd.underlying5 Tryd.underlying9 w (c / 256) (c % 256) 2
      have hsn : strOfNums [c / 256, c % 256] = ⟨#[(c / 256).toNat.toUInt8, (c % 256).toNat.toUInt8]⟩ := rfl
      rw [hsn] at hcv
      generalize (⟨#[(c / 256).toNat.toUInt8, (c % 256).toNat.toUInt8]⟩ : ByteArray) = s at *
      clear hsn
      rcases hns with hns | ⟨hns, hns2⟩
      · go_enter Tryd.func6, Tryd.ntmps6
        go_wp2_with (first | (go_at_call 17; refine (hby _ hm).mono ?_; rintro e w3 ⟨rfl, hb3⟩) | (go_at_call 18; refine (hrc _).mono ?_; rintro e w4 ⟨rfl, hb4⟩; have hB4 := hb3.trans (hb4.mono hb3.size)) | (go_at_call 9; refine (sawake_b hD hm hB4).mono ?_; rintro e w6 ⟨rfl, hB6⟩; have hc6 := hcv w6))
        go_ret
        exact ⟨rfl, hB6.alloc hB6.size _⟩
      · go_enter Tryd.func6, Tryd.ntmps6
        go_wp2_with (first | (go_at_call 17; refine (hby _ hm).mono ?_; rintro e w3 ⟨rfl, hb3⟩) | (go_at_call 18; refine (hrc _).mono ?_; rintro e w4 ⟨rfl, hb4⟩; have hB4 := hb3.trans (hb4.mono hb3.size)) | (go_at_call 9; refine (sawake_b hD hm hB4).mono ?_; rintro e w6 ⟨rfl, hB6⟩; have hc6 := hcv w6))
        go_ret
        exact ⟨rfl, hB6.alloc hB6.size _⟩
    · have e1 : decide (0 ≤ c) = false := by simp; omega
      have e2 : bytesP c = ⟨#[]⟩ := by unfold bytesP; rw [if_pos (by omega)]
      have e3 : (if 0 ≤ c then c else -1) = -1 := if_neg (by omega)
      rw [e1, e2] at hby
      rw [e3] at hrc
      clear e1 e2 e3 hc hbd
      rcases hns with hns | ⟨hns, hns2⟩
      · go_enter Tryd.func6, Tryd.ntmps6
        go_wp2_with (first | (go_at_call 17; refine (hby _ hm).mono ?_; rintro e w3 ⟨rfl, hb3⟩) | (go_at_call 18; refine (hrc _).mono ?_; rintro e w4 ⟨rfl, hb4⟩; have hB4 := hb3.trans (hb4.mono hb3.size)) | (go_at_call 9; refine (sawake_b hD hm hB4).mono ?_; rintro e w6 ⟨rfl, hB6⟩))
        go_ret
        exact ⟨rfl, hB6⟩
      · go_enter Tryd.func6, Tryd.ntmps6
        go_wp2_with (first | (go_at_call 17; refine (hby _ hm).mono ?_; rintro e w3 ⟨rfl, hb3⟩) | (go_at_call 18; refine (hrc _).mono ?_; rintro e w4 ⟨rfl, hb4⟩; have hB4 := hb3.trans (hb4.mono hb3.size)) | (go_at_call 9; refine (sawake_b hD hm hB4).mono ?_; rintro e w6 ⟨rfl, hB6⟩))
        go_ret
        exact ⟨rfl, hB6⟩
theorem bytes_law (p : Int) (hrng : -2147483648 ≤ p ∧ p ≤ 2147483647) (w : World) (hD : DB w) (hm : ML w) :
    Calls Tryd.prog 6 #[.int .i32 p] w fun e w' => e = .returned (.bool true) ∧ Below w.heap.size w w' := by
  by_cases hp : 44032 ≤ p ∧ p ≤ 55203
  · obtain ⟨n, rfl⟩ : ∃ n : Nat, p = 44032 + n := ⟨(p - 44032).toNat, by omega⟩
    exact bytes_syl n (by omega) w hD hm
  · exact bytes_out p (by omega) hrng w hD hm
end Go.Proofs.YtllmjlmeheohlaaDoor
