/- LrcLines holds; no condition. The pieces of a line are whole that line. -/
import Derived.Test.YtlcgfgbdehdndaaDoorYQ
set_option maxRecDepth 100000
set_option maxHeartbeats 2000000
namespace Go.Proofs.YtlcgfgbdehdndaaDoor
open Go Go.RowKit

theorem wholeL_append (a b : List Pc) : wholeL (a ++ b) = wholeL a ++ wholeL b := by simp [wholeL]
theorem wholeL_mk (x : List UInt8) : wholeL [mk x] = x := by simp [wholeL, mk]
theorem wholeL_nil : wholeL [] = [] := rfl
theorem times_whole : ∀ (f : Nat) (r : List UInt8), wholeL (timesF f r).1 ++ (timesF f r).2 = r
  | 0, r => by simp [timesF, wholeL]
  | f + 1, r => by
    by_cases h : timeN r = 0
    · rw [timesF_end _ _ h]; simp [wholeL]
    · rw [timesF_go h]
      have := times_whole f (r.drop (timeN r))
      show wholeL ([mk (r.take (timeN r))] ++ (timesF f (r.drop (timeN r))).1) ++ _ = r
      rw [wholeL_append, wholeL_mk, List.append_assoc, this, List.take_append_drop]
theorem note_whole (l : List UInt8) (ps : List Pc) (h : noteL l = some ps) : wholeL ps = l := by
  unfold noteL at h
  split at h
  · rename_i hc
    obtain ⟨h1, h2, h3, h4⟩ := hc
    obtain ⟨a1, a2, a3⟩ := idx_last h1 h2
    have hn : nmN l + 1 ≤ l.length - 1 := by
      have : nmN l ≠ l.length - 1 := fun e => by rw [e, a2] at h4; cases h4
      omega
    injection h with h
    subst h
    have e1 : l.take (nmN l + 1) = (l.take (l.length - 1)).take (nmN l + 1) := by rw [List.take_take, Nat.min_eq_left hn]
    have hl : l.length - 1 < l.length := by omega
    have e2 : l.take (l.length - 1) ++ [93] = l := by
      have := List.take_add_one (l := l) (i := l.length - 1)
      rw [a2, show l.length - 1 + 1 = l.length by omega, List.take_length] at this
      simpa using this.symm
    simp only [wholeL, mk, List.map_cons, List.map_nil, List.flatten_cons, List.flatten_nil, List.append_nil]
    rw [← List.append_assoc, e1, List.take_append_drop, e2]
  · cases h
theorem lrcL_whole (s : List UInt8) (ps : List Pc) (h : lrcL s = some ps) : wholeL ps = s := by
  unfold lrcL at h
  split at h
  · rename_i h0; injection h with h; subst h h0; rfl
  · split at h
    · exact note_whole s ps h
    · injection h with h
      subst h
      have := times_whole s.length s
      rw [wholeL_append]
      unfold tailP
      split
      · rename_i e; rw [e] at this; simpa [wholeL] using this
      · simpa [wholeL] using this
theorem rows_nil {w : World} {v : Value} (h : Rows3 pcV w v ((none : Option (List Pc)).getD [])) : v = .slice none 0 0 := by
  rcases h with ⟨_, h⟩ | ⟨bk, c, h, _⟩
  · exact h
  · exact absurd rfl h
end Go.Proofs.YtlcgfgbdehdndaaDoor
