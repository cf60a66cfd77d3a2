/- LrcLines holds; no condition. The pieces of a line are whole that line. -/
import Derived.Test.YtllmjlmeheohlaaYQ
set_option maxRecDepth 100000
set_option maxHeartbeats 2000000
namespace Go.Proofs.Ytllmjlmeheohlaa
open Go Go.RowKit

theorem wholeL_append (a b : List Pc) : wholeL (a ++ b) = wholeL a ++ wholeL b := by simp [wholeL]
theorem wholeL_mk (x : List UInt8) : wholeL [mk x] = x := by simp [wholeL, mk]
theorem wholeL_nil : wholeL [] = [] := rfl
theorem times_whole : ∀ (f : Nat) (r : List UInt8), wholeL (timesF f r).1 ++ (timesF f r).2 = r
  | 0, r => by simp [timesF, wholeL]
  | f + 1, r => by
    by_cases h : timeN r = 0
    · rw [timesF_end _ _ h]; simp [wholeL]
    · rw [timesF_go h]
      have := times_whole f (r.drop (timeN r))
      show wholeL ([mk (r.take (timeN r))] ++ (timesF f (r.drop (timeN r))).1) ++ _ = r
      rw [wholeL_append, wholeL_mk, List.append_assoc, this, List.take_append_drop]
theorem note_whole (l : List UInt8) (ps : List Pc) (h : noteL l = some ps) : wholeL ps = l := by
  unfold noteL at h
  split at h
  · rename_i hc
    obtain ⟨h1, h2, h3, h4⟩ := hc
    obtain ⟨a1, a2, a3⟩ := idx_last h1 h2
    have hn : nmN l + 1 ≤ l.length - 1 := by
      have : nmN l ≠ l.length - 1 := fun e => by rw [e, a2] at h4; cases h4
      omega
    injection h with h
    subst h
    have e1 : l.take (nmN l + 1) = (l.take (l.length - 1)).take (nmN l + 1) := by rw [List.take_take, Nat.min_eq_left hn]
    have hl : l.length - 1 < l.length := by omega
    have e2 : l.take (l.length - 1) ++ [93] = l := by
      have := List.take_add_one (l := l) (i := l.length - 1)
      rw [a2, show l.length - 1 + 1 = l.length by omega, List.take_length] at this
      simpa using this.symm
    simp only [wholeL, mk, List.map_cons, List.map_nil, List.flatten_cons, List.flatten_nil, List.append_nil]
    rw [← List.append_assoc, e1, List.take_append_drop, e2]
  · cases h
theorem lrcL_whole (s : List UInt8) (ps : List Pc) (h : lrcL s = some ps) : wholeL ps = s := by
  unfold lrcL at h
  split at h
  · rename_i h0; injection h with h; subst h h0; rfl
  · split at h
    · exact note_whole s ps h
    · injection h with h
      subst h
      have := times_whole s.length s
      rw [wholeL_append]
      unfold tailP
      split
      · rename_i e; rw [e] at this; simpa [wholeL] using this
      · simpa [wholeL] using this
theorem rows_nil {w : World} {v : Value} (h : Rows3 pcV w v ((none : Option (List Pc)).getD [])) : v = .slice none 0 0 := by
  rcases h with ⟨_, h⟩ | ⟨bk, c, h, _⟩
  · exact h
  · exact absurd rfl h
theorem awake26 (w : World) :
    Calls Try.prog 9 #[] w fun e w' => e = .returned (.bool true) ∧ Below w.heap.size w w' := by
  go_enter Try.func9, Try.ntmps9
  go_wp2_with (go_at_call 28; refine (Awake26 _).mono ?_; rintro e w1 ⟨rfl, hb1⟩)
  go_ret
  exact ⟨rfl, hb1⟩
theorem LrcLines_law (s : ByteArray) (w : World) :
    Calls Try.prog 3 #[.string s] w fun e w' => e = .returned (.bool true) ∧ Below w.heap.size w w' := by
  by_cases hs : s.size ≤ 500
  · have hp := fun w => Pieces_any s (by omega) w
    have hr := fun w => RPieces_any s (by omega) w
    have hm := fun w => Moment_any s (by omega) w
    have hn := fun w => RMoment_any s (by omega) w
    cases hq : lrcL s.data.toList with
    | none =>
      go_enter Try.func3, Try.ntmps3
      generalize momB s.data.toList = mb at *
      go_wp2_with (first | (go_at_call 10; refine (hp _).mono ?_; rintro e w1 ⟨v1, rfl, h1, hb1⟩; rw [hq] at h1 ⊢; obtain rfl : v1 = .slice none 0 0 := rows_nil h1; simp only [Option.isSome_none]) | (go_at_call 11; refine (hr _).mono ?_; rintro e w2 ⟨v2, rfl, h2, hb2⟩; rw [hq] at h2 ⊢; simp only [Option.isSome_none]) | (go_at_call 12; refine (hm _).mono ?_; rintro e w3 ⟨rfl, hb3⟩) | (go_at_call 13; refine (hn _).mono ?_; rintro e w4 ⟨rfl, hb4⟩) | (go_at_call 9; refine (awake26 _).mono ?_; rintro e w5 ⟨rfl, hb5⟩))
      go_ret
      exact ⟨rfl, bch (bch (bch (bch hb1 hb2) hb3) hb4) (by assumption)⟩
    | some ps =>
      have hw := lrcL_whole _ _ hq
      have hlen := lrcL_len _ _ hq
      have hsz : s.data.toList.length = s.size := by simp
      have hnp : ps.length ≤ 1000000 := by omega
      have hB : B s.data.toList = s := (B_of s).symm
      go_enter Try.func3, Try.ntmps3
      generalize momB s.data.toList = mb at *
      go_wp2_with (first | (go_at_call 10; refine (hp _).mono ?_; rintro e w1 ⟨v1, rfl, h1, hb1⟩; rw [hq] at h1 ⊢; simp only [Option.isSome_some, Option.getD_some] at h1 ⊢) | (go_at_call 11; refine (hr _).mono ?_; rintro e w2 ⟨v2, rfl, h2, hb2⟩; rw [hq] at h2 ⊢; simp only [Option.isSome_some, Option.getD_some] at h2 ⊢) | (go_at_call 12; refine (hm _).mono ?_; rintro e w3 ⟨rfl, hb3⟩) | (go_at_call 13; refine (hn _).mono ?_; rintro e w4 ⟨rfl, hb4⟩) | (go_at_call 9; refine (awake26 _).mono ?_; rintro e w5 ⟨rfl, hb5⟩; have g1 := ((((h1.below hb2).below hb3).below hb4).below hb5); have g2 := (((h2.below hb3).below hb4).below hb5)) | (go_at_call 14; refine (Same_any _ _ ps _ g1 g2 hnp).mono ?_; rintro e w6 ⟨rfl, hb6⟩; have g3 := g1.below hb6) | (go_at_call 15; refine (Whole_any _ ps _ g3 hnp (by rw [hw]; omega)).mono ?_; rintro e w7 ⟨rfl, hb7⟩; rw [hw, hB]))
      go_ret
      exact ⟨rfl, bch (bch (bch (bch (bch (bch hb1 hb2) hb3) hb4) (by assumption)) (by assumption)) (by assumption)⟩
  · go_enter Try.func3, Try.ntmps3
    have hgt : (500 : Int) < s.size := by omega
    go_wp2_with (go_at_call 9; refine (awake26 _).mono ?_; rintro e w1 ⟨rfl, hb1⟩)
    go_ret
    exact ⟨rfl, hb1⟩
end Go.Proofs.Ytllmjlmeheohlaa
