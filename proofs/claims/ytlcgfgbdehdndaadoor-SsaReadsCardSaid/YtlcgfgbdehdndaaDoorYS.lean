/- Contract of the document's Parse (chapter 26): it tells what lrc.Parse tells; condition: at most 40,000 bytes. -/
import Derived.Test.YtlcgfgbdehdndaaDoorYR
set_option maxRecDepth 100000
set_option maxHeartbeats 4000000
namespace Go.Proofs.YtlcgfgbdehdndaaDoor
open Go Go.RowKit

/-- How many pieces the lines give at the most. -/
def wt : List Ln → Nat
  | [] => 0
  | x :: l => 4 * x.1.length + 4 + (endP x.2.1).length + wt l
theorem endP_len (e : List UInt8) : (endP e).length ≤ 1 ∧ (endP e).length ≤ e.length := by
  unfold endP
  split
  · simp
  · rename_i h; cases e with | nil => exact absurd rfl h | cons _ _ => simp
theorem wt_le : ∀ (f : Nat) (r : List UInt8) (i : Nat), wt (linesF f r i) ≤ 9 * r.length
  | 0, r, i => by simp [linesF, wt]
  | f + 1, r, i => by
    unfold linesF
    split
    · simp [wt]
    · rename_i h
      have h1 := eol_pos h
      have h2 := ln_le r
      have h3 := endP_len (lnE r)
      have h4 := wt_le f (r.drop ((lnT r).length + (lnE r).length)) (i + ((lnT r).length + (lnE r).length))
      rw [List.length_drop] at h4
      simp only [wt]
      omega
theorem wt_walk (f : List UInt8 → Option (List Pc)) (hf : ∀ s ps, f s = some ps → ps.length ≤ 4 * s.length + 4) : ∀ (l : List Ln) (ps : List Pc), walkL f l = .inl ps → ps.length ≤ wt l
  | [], ps, h => by simp [walkL] at h; subst h; simp
  | x :: l, ps, h => by
    cases hx : f x.1 with
    | none => rw [walkL_none hx] at h; cases h
    | some qs =>
      rw [walkL_some hx] at h
      have h1 := hf _ _ hx
      cases hw : walkL f l with
      | inr a => rw [hw] at h; cases h
      | inl rs =>
        rw [hw] at h
        have h2 := wt_walk f hf l rs hw
        injection h with h
        subst h
        simp only [wt, List.length_append]
        omega
theorem wt_drop : ∀ (l : List Ln) (k : Nat) (x : Ln), l[k]? = some x → l.drop k = x :: l.drop (k + 1)
  | [], k, x, h => by simp at h
  | y :: l, 0, x, h => by simp at h; subst h; rfl
  | y :: l, k + 1, x, h => by simpa using wt_drop l k x (by simpa using h)
theorem wt_len : ∀ (l : List Ln), 4 * l.length ≤ wt l
  | [] => by simp [wt]
  | x :: l => by have := wt_len l; simp only [wt, List.length_cons]; omega
theorem wt_dle : ∀ (l : List Ln) (k : Nat), wt (l.drop k) ≤ wt l
  | [], k => by simp
  | x :: l, 0 => by simp
  | x :: l, k + 1 => by have := wt_dle l k; simp only [wt, List.drop_succ_cons]; omega
theorem rowsG {α : Type} {f : α → List Value} {v : Value} {ps : List α} {w : World} (hv : Rows3 f w v ps) : ∃ (A : Option Addr) (c : Nat), v = .slice A ps.length c ∧ ps.length ≤ c ∧ (0 < ps.length → ∃ bk, A = some ⟨bk, 0, none⟩ ∧ bk < w.heap.size ∧ ∀ j u, (ps.flatMap f)[j]? = some u → w.cell? ⟨bk, j, none⟩ = some u) := by
  rcases hv with ⟨rfl, rfl⟩ | ⟨bk, c, h0, rfl, h2, h3, h4⟩
  · exact ⟨none, 0, rfl, by simp, fun h => by simp at h⟩
  · exact ⟨_, c, rfl, h2, fun _ => ⟨bk, rfl, h3, h4⟩⟩
def RwRes (r : List Pc ⊕ Nat) (w' : World) (v : Value) (a : Int) : Prop :=
  (∃ ps, r = .inl ps ∧ Rows3 pcV w' v ps ∧ a = -1) ∨ (∃ n : Nat, r = .inr n ∧ v = .slice none 0 0 ∧ a = n)
def RwPost (t : List UInt8) (w0 : World) (e : Ending) (w' : World) : Prop :=
  ∃ v a, e = .returned (.tuple #[v, .int .i64 a]) ∧ RwRes (walkL lrcL (linesL t)) w' v a ∧ Below w0.heap.size w0 w'
def RwRel (L : List Ln) (w0 : World) (v i : Value) (wr : World) : Prop := ∃ (acc : List Pc) (k : Nat), k ≤ L.length ∧ i = .int .i64 k ∧ walkL lrcL L = pre acc (walkL lrcL (L.drop k)) ∧ acc.length + wt (L.drop k) ≤ wt L ∧ wr.ownsRow w0.heap.size 55 3 v acc.length (acc.flatMap pcV) ∧ (acc = [] → v = .slice none 0 0) ∧ Below w0.heap.size w0 wr
end Go.Proofs.YtlcgfgbdehdndaaDoor
