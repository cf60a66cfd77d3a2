/- Contract of big5.at, for every list in base sixteen; condition: the list has at most 100,000 bytes. -/
import Derived.Test.YtnalckiibcbgoaaB1
set_option maxRecDepth 100000
set_option maxHeartbeats 1000000
namespace Go.Proofs.Ytnalckiibcbgoaa
open Go Go.RowKit

theorem At_out (s : ByteArray) (ps : List Int) (h : Hex s ps) (k : Int) (hk : k < 0 ∨ ps.length ≤ k) (hs : s.size ≤ 100000) (hkb : -100000 ≤ k ∧ k ≤ 100000) (w : World) :
    Calls Try.prog 29 #[.string s, .int .i64 k] w fun e w' => e = .returned (.tuple #[.int .i32 0, .bool false]) ∧ Below w.heap.size w w' := by
  have hsz := h.size
  have hdiv : (s.size : Int) / 5 = ps.length := by omega
  by_cases h0 : k < 0
  · go_enter Try.func29, Try.ntmps29
    go_wp2_with fail
    go_ret2
    exact ⟨rfl, Below.refl _ _⟩
  · have h1 : (s.size : Int) / 5 ≤ k := by omega
    clear hdiv
    go_enter Try.func29, Try.ntmps29
    go_wp2_with fail
    go_ret2
    exact ⟨rfl, Below.refl _ _⟩

theorem At_in (s : ByteArray) (ps : List Int) (h : Hex s ps) (k : Nat) (hk : k < ps.length) (hs : s.size ≤ 100000) (w : World) :
    Calls Try.prog 29 #[.string s, .int .i64 k] w fun e w' => e = .returned (.tuple #[.int .i32 (ps.getD k 0), .bool true]) ∧ Below w.heap.size w w' := by
  have hsz := h.size
  have hp := h.2 _ (getD_mem hk)
  have d0 := h.digit (j := 0) (m := 5 * k) rfl hk (by omega) (by omega)
  have d1 := h.digit (j := 1) (m := 5 * k) rfl hk (by omega) (by omega)
  have d2 := h.digit (j := 2) (m := 5 * k) rfl hk (by omega) (by omega)
  have d3 := h.digit (j := 3) (m := 5 * k) rfl hk (by omega) (by omega)
  generalize ps.getD k 0 = p at *
  obtain ⟨q0, q1, q2, q3⟩ := cell_digits hp
  simp [cellL] at d0 d1 d2 d3
  have D0 := fun w => Digit_any (p / 4096) s[5 * k] q0 d0.symm w
  have D1 := fun w => Digit_any (p / 256 % 16) s[5 * k + 1] q1 d1.symm w
  have D2 := fun w => Digit_any (p / 16 % 16) s[5 * k + 2] q2 d2.symm w
  have D3 := fun w => Digit_any (p % 16) s[5 * k + 3] q3 d3.symm w
  obtain ⟨q00, q01⟩ := q0
  obtain ⟨q10, q11⟩ := q1
  obtain ⟨q20, q21⟩ := q2
  obtain ⟨q30, q31⟩ := q3
  have hge : ¬ (s.size : Int) / 5 ≤ k := by omega
  have hm' : (k : Int) * 5 = 5 * (k : Int) := by omega
  have hmb : 5 * k + 3 < s.size := by omega
  have hA1 : (5 * (k : Int) + 1).toNat = 5 * k + 1 := by omega
  have hA2 : (5 * (k : Int) + 1 + 1).toNat = 5 * k + 2 := by omega
  have hA3 : (5 * (k : Int) + 1 + 1 + 1).toNat = 5 * k + 3 := by omega
  clear d0 d1 d2 d3 h
  go_enter Try.func29, Try.ntmps29
  go_wp2_with fail
  refine wp_loop_rounds 5 ?_
  rw [rounds_succ]
  go_wp2_with (first | (go_at_call 39; first | (refine (D0 _).mono ?_; clear D0; rintro e w' ⟨rfl, rfl⟩) | (refine (D1 _).mono ?_; clear D1; rintro e w' ⟨rfl, rfl⟩) | (refine (D2 _).mono ?_; clear D2; rintro e w' ⟨rfl, rfl⟩) | (refine (D3 _).mono ?_; clear D3; rintro e w' ⟨rfl, rfl⟩)))
  rw [rounds_succ]
  go_wp2_with (first | (go_at_call 39; first | (refine (D0 _).mono ?_; clear D0; rintro e w' ⟨rfl, rfl⟩) | (refine (D1 _).mono ?_; clear D1; rintro e w' ⟨rfl, rfl⟩) | (refine (D2 _).mono ?_; clear D2; rintro e w' ⟨rfl, rfl⟩) | (refine (D3 _).mono ?_; clear D3; rintro e w' ⟨rfl, rfl⟩)))
  rw [rounds_succ]
  go_wp2_with (first | (go_at_call 39; first | (refine (D0 _).mono ?_; clear D0; rintro e w' ⟨rfl, rfl⟩) | (refine (D1 _).mono ?_; clear D1; rintro e w' ⟨rfl, rfl⟩) | (refine (D2 _).mono ?_; clear D2; rintro e w' ⟨rfl, rfl⟩) | (refine (D3 _).mono ?_; clear D3; rintro e w' ⟨rfl, rfl⟩)))
  rw [rounds_succ]
  go_wp2_with (first | (go_at_call 39; first | (refine (D0 _).mono ?_; clear D0; rintro e w' ⟨rfl, rfl⟩) | (refine (D1 _).mono ?_; clear D1; rintro e w' ⟨rfl, rfl⟩) | (refine (D2 _).mono ?_; clear D2; rintro e w' ⟨rfl, rfl⟩) | (refine (D3 _).mono ?_; clear D3; rintro e w' ⟨rfl, rfl⟩)))
  rw [rounds_succ]
  go_wp2_with fail
  go_ret2
  refine ⟨?_, Below.refl _ _⟩
  have e : ∀ x : Int, x = p → Ending.returned (.tuple #[.int .i32 x, .bool true]) = .returned (.tuple #[.int .i32 p, .bool true]) := fun x hx => by rw [hx]
  refine e _ ?_
  have f1 : wrap32 ((p / 4096 * 16 + p / 256 % 16) * 16) = p / 256 * 16 := by unfold wrap32; omega
  have f2 : wrap32 ((p / 256 * 16 + p / 16 % 16) * 16) = p / 16 * 16 := by unfold wrap32; omega
  rw [i32_or4 (by omega) (by omega) (by omega) (by omega), f1, i32_or4 (by omega) (by omega) (by omega) (by omega), f2, i32_or4 (by omega) (by omega) (by omega) (by omega)]
  omega
end Go.Proofs.Ytnalckiibcbgoaa
