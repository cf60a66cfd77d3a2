/- LrcReads holds; no condition. -/
import Derived.Test.YtlcgfgbdehdndaaDoorYT
import Derived.Test.YtlcgfgbdehdndaaDoorLin
set_option maxRecDepth 100000
set_option maxHeartbeats 4000000
namespace Go.Proofs.YtlcgfgbdehdndaaDoor
open Go Go.RowKit

theorem cell_keepR {w' w'' : World} {a : Addr} {v : Value} (h : w'.cell? a = some v) (hb : Below w'.heap.size w' w'') : w''.cell? a = some v := by
  exact (hb.cell (World.block_lt_of_cell? w' a h)).trans h
theorem fin2 {w W w' : World} {p : Prop} (hB : Below w.heap.size w W) (h : p ∧ Below W.heap.size W w') : Below w.heap.size w w' := hB.trans (h.2.mono hB.size)
/-- The pieces of a text are whole that text, and not too many. -/
theorem linesF_whole : ∀ (f : Nat) (r : List UInt8) (i : Nat), r.length ≤ f → ((linesF f r i).map fun x : Ln => x.1 ++ x.2.1).flatten = r
  | 0, r, i, h => by
    have : r = [] := List.eq_nil_of_length_eq_zero (by omega)
    subst this; simp [linesF]
  | f + 1, r, i, h => by
    unfold linesF
    split
    · rename_i e; simp [e]
    · rename_i e
      have h1 := eol_pos e
      obtain ⟨t, ht⟩ := ln_pre r
      rw [← List.append_assoc] at ht
      have hd : r.drop ((lnT r).length + (lnE r).length) = t := by
        conv => lhs; arg 2; rw [ht]
        rw [← List.length_append]; exact List.drop_left
      rw [hd]
      have hl := congrArg List.length ht
      simp only [List.length_append] at hl
      have := linesF_whole f t (i + ((lnT r).length + (lnE r).length)) (by omega)
      simp only [List.map_cons, List.flatten_cons, this]
      exact ht.symm
theorem walk_wholeL (f : List UInt8 → Option (List Pc)) (hf : ∀ s ps, f s = some ps → wholeL ps = s) : ∀ (l : List Ln) (ps : List Pc), walkL f l = .inl ps → wholeL ps = (l.map fun x : Ln => x.1 ++ x.2.1).flatten
  | [], ps, h => by simp [walkL] at h; subst h; rfl
  | x :: l, ps, h => by
    cases hx : f x.1 with
    | none => rw [walkL_none hx] at h; cases h
    | some qs =>
      rw [walkL_some hx] at h
      cases hw : walkL f l with
      | inr a => rw [hw] at h; cases h
      | inl rs =>
        rw [hw] at h
        injection h with h
        subst h
        have h2 := walk_wholeL f hf l rs hw
        have h3 : wholeL (endP x.2.1) = x.2.1 := by
          unfold endP
          by_cases e : x.2.1 = []
          · rw [if_pos e, e]; rfl
          · rw [if_neg e]; exact wholeL_mk _
        rw [wholeL_append, wholeL_append, hf _ _ hx, h3, h2]; simp
theorem walk_whole (f : List UInt8 → Option (List Pc)) (hf : ∀ s ps, f s = some ps → wholeL ps = s) (t : List UInt8) (ps : List Pc) (h : walkL f (linesL t) = .inl ps) : wholeL ps = t := by
  rw [walk_wholeL f hf _ _ h]; exact linesF_whole _ _ _ (Nat.le_refl _)
theorem parse_len (t : List UInt8) (ps : List Pc) (h : walkL lrcL (linesL t) = .inl ps) : ps.length ≤ 9 * t.length := by
  have h1 := wt_walk lrcL lrcL_len _ _ h
  have h2 := wt_le t.length t 0
  unfold linesL at h1
  omega
theorem keepR {W w' w'' : World} {a0 a1 : Addr} {v0 v1 : Value} (h : (w'.cell? a0 = some v0 ∧ w'.cell? a1 = some v1) ∧ Below W.heap.size W w') (hb : Below w'.heap.size w' w'') :
    (w''.cell? a0 = some v0 ∧ w''.cell? a1 = some v1) ∧ Below W.heap.size W w'' :=
  ⟨⟨cell_keepR h.1.1 hb, cell_keepR h.1.2 hb⟩, h.2.trans (hb.mono h.2.size)⟩
theorem rows3_of {W w' : World} {v : Value} {ps : List Pc} (h : Rows3 pcV W v ps) {p : Prop} (hS : p ∧ Below W.heap.size W w') : Rows3 pcV w' v ps := h.below hS.2
end Go.Proofs.YtlcgfgbdehdndaaDoor
