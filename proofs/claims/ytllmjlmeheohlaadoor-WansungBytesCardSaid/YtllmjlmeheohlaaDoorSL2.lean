/- The laws of chapter 07, walked: the example, WansungRanks, WansungPlaces, WansungSigns; conditions: the table of math/bits lies as laid; the cell of the library's MaxLen holds some int. -/
import Derived.Test.YtllmjlmeheohlaaDoorSL1
set_option maxRecDepth 100000
set_option maxHeartbeats 1000000
namespace Go.Proofs.YtllmjlmeheohlaaDoor
open Go Go.RowKit

theorem Sign_at {lead b p : Int} (h : SignIs lead b p) (hl : 0 ≤ lead ∧ lead ≤ 255) (hb : 0 ≤ b ∧ b ≤ 255) (w : World) (hD : DB w) :
    Calls Tryd.prog 15 #[.int .u8 lead, .int .u8 b] w fun e w' => e = .returned (.tuple #[.int .i32 p, .bool (p != 0)]) ∧ Below w.heap.size w w' :=
  (Sign_any lead b hl hb w hD).mono fun e w' ⟨q, h1, h2, h3⟩ => by
    rw [sign_uniq h h2]; exact ⟨h1, h3⟩
theorem RSign_at {lead b p : Int} (h : SignIs lead b p) (hl : 0 ≤ lead ∧ lead ≤ 255) (hb : 0 ≤ b ∧ b ≤ 255) (w : World) :
    Calls Tryd.prog 16 #[.int .i64 lead, .int .i64 b] w fun e w' => e = .returned (.int .i32 p) ∧ Below w.heap.size w w' :=
  (RSign_any lead b hl hb w).mono fun e w' ⟨q, h1, h2, h3⟩ => by
    rw [sign_uniq h h2]; exact ⟨h1, h3⟩
theorem Place_at {k p : Int} (h : KthZ k true p) (hk : k ≤ 9223372036854775807) (w : World) (hD : DB w) :
    Calls Tryd.prog 12 #[.int .i64 k] w fun e w' => e = .returned (.tuple #[.int .i32 p, .bool (p != 0)]) ∧ Below w.heap.size w w' :=
  (Place_any k hk w hD).mono fun e w' ⟨q, h1, h2, h3⟩ => by
    rw [kthZ_uniq h h2]; exact ⟨h1, h3⟩
theorem Extra_at {k p : Int} (h : KthZ k false p) (hk : k ≤ 9223372036854775807) (w : World) (hD : DB w) :
    Calls Tryd.prog 13 #[.int .i64 k] w fun e w' => e = .returned (.tuple #[.int .i32 p, .bool (p != 0)]) ∧ Below w.heap.size w w' :=
  (Extra_any k hk w hD).mono fun e w' ⟨q, h1, h2, h3⟩ => by
    rw [kthZ_uniq h h2]; exact ⟨h1, h3⟩
theorem Kth_at {k p : Int} {b : Bool} (h : KthZ k b p) (h0 : 0 ≤ k) (hk : k ≤ 1000000) (w : World) :
    Calls Tryd.prog 14 #[.int .i64 k, .bool b] w fun e w' => e = .returned (.int .i32 p) ∧ Below w.heap.size w w' :=
  (Kth_z k h0 hk b w).mono fun e w' ⟨q, h1, h2, h3⟩ => by
    rw [kthZ_uniq h h2]; exact ⟨h1, h3⟩
theorem bytesP_at {c : Int} (h0 : 0 ≤ c) : bytesP c = ⟨#[(c / 256).toNat.toUInt8, (c % 256).toNat.toUInt8]⟩ := by
  unfold bytesP
  rw [if_neg (by omega)]

theorem isIn_1 : isIn 1 = true ∧ cnt true 1 = 1 := by decide +kernel
theorem isIn_last : isIn 11171 = false := by decide +kernel
theorem cnt_last : cnt false 11171 = 8821 := by
  have h : cnt false 11172 = cnt false 11171 + (if isIn 11171 = false then 1 else 0) := rfl
  rw [cnt_out, isIn_last] at h
  simp at h
  omega
theorem ex_sign : SignIs 176 162 44033 := by
  unfold SignIs
  rw [if_neg (by decide), if_neg (by decide), if_neg (by decide)]
  unfold RowIs
  rw [if_neg (by decide), if_pos (by decide)]
  exact .inr ⟨by decide, .inl ⟨1, by decide, isIn_1.1, isIn_1.2, rfl⟩⟩
theorem ex_code : codeP 55203 = 50770 := by
  have h := code_ex (n := 11171) (by decide) isIn_last
  rw [cnt_last] at h
  exact h.trans (by decide)
theorem SAwake_t (w : World) (hD : DB w) (hm : ML w) :
    Calls Tryd.prog 23 #[] w fun e w' => e = .returned (.bool true) ∧ Below w.heap.size w w' := by
  have hs := fun w => Sign_at ex_sign (by omega) (by omega) w
  have hb := fun w => Bytes_any 55203 (by omega) w
  unfold BPost at hb
  rw [ex_code] at hb
  have e1 : bytesP 50770 = ⟨#[198, 82]⟩ := by decide
  have e2 : decide ((0 : Int) ≤ 50770) = true := by decide
  have e3 : ((44033 : Int) != 0) = true := by decide
  rw [e1, e2] at hb
  rw [e3] at hs
  clear e1 e2 e3
  go_enter Tryd.func23, Tryd.ntmps23
  go_wp2_with (first | (go_at_call 15; refine (hs _ hD).mono ?_; rintro e w1 ⟨rfl, hb1⟩) | (go_at_call 17; refine (hb _ (ML_below hm hb1 (Nat.le_refl _))).mono ?_; rintro e w2 ⟨rfl, hb2⟩))
  go_ret
  exact ⟨rfl, hb1.trans (hb2.mono hb1.size)⟩
theorem sawake (w : World) (hD : DB w) (hm : ML w) :
    Calls Tryd.prog 9 #[] w fun e w' => e = .returned (.bool true) ∧ Below w.heap.size w w' := by
  go_enter Tryd.func9, Tryd.ntmps9
  go_wp2_with (go_at_call 23; refine (SAwake_t _ hD hm).mono ?_; rintro e w1 ⟨rfl, hb1⟩)
  go_ret
  exact ⟨rfl, hb1⟩
theorem sawake_b {w : World} (hD : DB w) (hm : ML w) {w' : World} (hb : Below w.heap.size w w') :
    Calls Tryd.prog 9 #[] w' fun e w'' => e = .returned (.bool true) ∧ Below w.heap.size w w'' :=
  (sawake w' (DB_below hD hb (Nat.le_refl _)) (ML_below hm hb (Nat.le_refl _))).mono fun _ _ h => ⟨h.1, hb.trans (h.2.mono hb.size)⟩
theorem ranks_law (p : Int) (w : World) (hD : DB w) (hm : ML w) :
    Calls Tryd.prog 3 #[.int .i32 p] w fun e w' => e = .returned (.bool true) ∧ Below w.heap.size w w' := by
  by_cases hp : 44032 ≤ p ∧ p ≤ 55203
  · obtain ⟨n, rfl⟩ : ∃ n : Nat, p = 44032 + n := ⟨(p - 44032).toNat, by omega⟩
    have hn : n < 11172 := by omega
    have h1 : ¬ (44032 : Int) + n < 44032 := by omega
    have h2 : ¬ (55203 : Int) < 44032 + n := by omega
    have h3 : (44032 : Int) + n - 44032 = n := by omega
    have hr := fun w => Rank_in n hn w
    have hi := fun w => In_any n hn w
    have hrr := fun w => RRank_any n hn w
    have hk : KthZ (cnt (isIn n) n) (isIn n) (44032 + n) := .inr ⟨by omega, .inl ⟨n, hn, rfl, by simp, rfl⟩⟩
    have hkl := cnt_le (isIn n) n
    have hne : ((44032 : Int) + n != 0) = true := by simp; omega
    clear hp
    generalize cnt (isIn n) n = k at *
    cases hin : isIn n
    · rw [hin] at hr hi hk
      have hx := fun w => Extra_at hk (by omega) w
      have hpl := fun w hD => Place_any (k : Int) (by omega) w hD
      rw [hne] at hx
      clear hk hin hne
      go_enter Tryd.func3, Tryd.ntmps3
      go_wp2_with (first | (go_at_call 8; refine (hr _).mono ?_; rintro e w1 ⟨rfl, hb1⟩) | (go_at_call 10; refine (hi _).mono ?_; rintro e w2 ⟨rfl, hb2⟩; have hB2 := hb1.trans (hb2.mono hb1.size)) | (go_at_call 11; refine (hrr _).mono ?_; rintro e w3 ⟨rfl, hb3⟩; have hB3 := hB2.trans (hb3.mono hB2.size); have hD3 := DB_below hD hB3 (Nat.le_refl _)) | (go_at_call 12; refine (hpl _ hD3).mono ?_; rintro e w4 ⟨_, rfl, _, hb4⟩; have hB4 := hB3.trans (hb4.mono hB3.size); have hD4 := DB_below hD hB4 (Nat.le_refl _)) | (go_at_call 13; refine (hx _ hD4).mono ?_; rintro e w5 ⟨rfl, hb5⟩; have hB5 := hB4.trans (hb5.mono hB4.size)) | (go_at_call 9; refine (sawake_b hD hm hB5).mono ?_; rintro e w6 ⟨rfl, hB6⟩))
      go_ret
      exact ⟨rfl, hB6⟩
    · rw [hin] at hr hi hk
      have hx := fun w => Place_at hk (by omega) w
      rw [hne] at hx
      clear hk hin hne
      go_enter Tryd.func3, Tryd.ntmps3
      go_wp2_with (first | (go_at_call 8; refine (hr _).mono ?_; rintro e w1 ⟨rfl, hb1⟩) | (go_at_call 10; refine (hi _).mono ?_; rintro e w2 ⟨rfl, hb2⟩; have hB2 := hb1.trans (hb2.mono hb1.size)) | (go_at_call 11; refine (hrr _).mono ?_; rintro e w3 ⟨rfl, hb3⟩; have hB3 := hB2.trans (hb3.mono hB2.size); have hD3 := DB_below hD hB3 (Nat.le_refl _)) | (go_at_call 12; refine (hx _ hD3).mono ?_; rintro e w4 ⟨rfl, hb4⟩; have hB4 := hB3.trans (hb4.mono hB3.size)) | (go_at_call 9; refine (sawake_b hD hm hB4).mono ?_; rintro e w6 ⟨rfl, hB6⟩))
      go_ret
      exact ⟨rfl, hB6⟩
  · have hr := fun w => Rank_out p (by omega) w
    by_cases h1 : p < 44032
    · clear hp
      go_enter Tryd.func3, Tryd.ntmps3
      go_wp2_with (first | (go_at_call 8; refine (hr _).mono ?_; rintro e w1 ⟨rfl, hb1⟩) | (go_at_call 9; refine (sawake_b hD hm hb1).mono ?_; rintro e w6 ⟨rfl, hB6⟩))
      go_ret
      exact ⟨rfl, hB6⟩
    · have h2 : 55203 < p := by omega
      clear hp
      go_enter Tryd.func3, Tryd.ntmps3
      go_wp2_with (first | (go_at_call 8; refine (hr _).mono ?_; rintro e w1 ⟨rfl, hb1⟩) | (go_at_call 9; refine (sawake_b hD hm hb1).mono ?_; rintro e w6 ⟨rfl, hB6⟩))
      go_ret
      exact ⟨rfl, hB6⟩
theorem places_law (k : Int) (hk : k ≤ 9223372036854775807) (w : World) (hD : DB w) (hm : ML w) :
    Calls Tryd.prog 4 #[.int .i64 k] w fun e w' => e = .returned (.bool true) ∧ Below w.heap.size w w' := by
  obtain ⟨p, hp⟩ := kthZ_ex k true
  obtain ⟨q, hq⟩ := kthZ_ex k false
  have h1 := kthZ_ne hp
  have h2 := kthZ_ne hq
  simp only [if_true, Bool.false_eq_true, if_false] at h1 h2
  have hpl := fun w => Place_at hp hk w
  have hex := fun w => Extra_at hq hk w
  have ep : (p != 0) = decide (0 ≤ k ∧ k < 2350) := by
    rw [Bool.eq_iff_iff]; simp only [bne_iff_ne, decide_eq_true_eq]; exact h1
  have eq_ : (q != 0) = decide (0 ≤ k ∧ k < 8822) := by
    rw [Bool.eq_iff_iff]; simp only [bne_iff_ne, decide_eq_true_eq]; exact h2
  by_cases hr : 0 ≤ k ∧ k ≤ 12000
  · have ha := fun w => Kth_at hp hr.1 (by omega) w
    have hb := fun w => Kth_at hq hr.1 (by omega) w
    obtain ⟨k0, k1⟩ := hr
    have d0 : ¬ k < 0 := by omega
    have d1 : ¬ 12000 < k := by omega
    have ep2 : (p != 0) = decide (k < 2350) := by rw [ep]; simp [k0]
    have eq2 : (q != 0) = decide (k < 8822) := by rw [eq_]; simp [k0]
    rw [ep2] at hpl
    rw [eq2] at hex
    clear h1 h2 hp hq ep eq_
    go_enter Tryd.func4, Tryd.ntmps4
    go_wp2_with (first | (go_at_call 12; refine (hpl _ hD).mono ?_; rintro e w1 ⟨rfl, hb1⟩; have hD1 := DB_below hD hb1 (Nat.le_refl _)) | (go_at_call 13; refine (hex _ hD1).mono ?_; rintro e w2 ⟨rfl, hb2⟩; have hB2 := hb1.trans (hb2.mono hb1.size)) | (go_at_call 14; first | ((with_reducible refine (ha _).mono ?_); clear ha; rintro e w3 ⟨rfl, hb3⟩; have hB3 := hB2.trans (hb3.mono hB2.size)) | ((with_reducible refine (hb _).mono ?_); clear hb; rintro e w4 ⟨rfl, hb4⟩; have hB4 := hB3.trans (hb4.mono hB3.size))) | (go_at_call 9; refine (sawake_b hD hm hB4).mono ?_; rintro e w6 ⟨rfl, hB6⟩))
    go_ret
    exact ⟨rfl, hB6⟩
  · have ep2 : (p != 0) = false := by rw [ep]; simp; omega
    have eq2 : (q != 0) = false := by rw [eq_]; simp; omega
    have p0 : p = 0 := by simpa using ep2
    have q0 : q = 0 := by simpa using eq2
    subst p0
    subst q0
    rw [ep2] at hpl
    rw [eq2] at hex
    clear h1 h2 hp hq ep eq_ ep2 eq2
    by_cases h0 : k < 0
    · clear hr
      go_enter Tryd.func4, Tryd.ntmps4
      go_wp2_with (first | (go_at_call 12; refine (hpl _ hD).mono ?_; rintro e w1 ⟨rfl, hb1⟩; have hD1 := DB_below hD hb1 (Nat.le_refl _)) | (go_at_call 13; refine (hex _ hD1).mono ?_; rintro e w2 ⟨rfl, hb2⟩; have hB2 := hb1.trans (hb2.mono hb1.size)) | (go_at_call 9; refine (sawake_b hD hm hB2).mono ?_; rintro e w6 ⟨rfl, hB6⟩))
      go_ret
      exact ⟨rfl, hB6⟩
    · have h1 : 12000 < k := by omega
      clear hr
      go_enter Tryd.func4, Tryd.ntmps4
      go_wp2_with (first | (go_at_call 12; refine (hpl _ hD).mono ?_; rintro e w1 ⟨rfl, hb1⟩; have hD1 := DB_below hD hb1 (Nat.le_refl _)) | (go_at_call 13; refine (hex _ hD1).mono ?_; rintro e w2 ⟨rfl, hb2⟩; have hB2 := hb1.trans (hb2.mono hb1.size)) | (go_at_call 9; refine (sawake_b hD hm hB2).mono ?_; rintro e w6 ⟨rfl, hB6⟩))
      go_ret
      exact ⟨rfl, hB6⟩
end Go.Proofs.YtllmjlmeheohlaaDoor
