/- Texts of pieces replaced by small letters, over any function that tells a line's pieces with a state: they read again as the pieces with that text: plain lists. No condition. -/
import Derived.Test.YtlcgfgbdehdndaaDoorVA
import Derived.Test.YtlcgfgbdehdndaaDoorUX
set_option maxRecDepth 100000
set_option maxHeartbeats 1000000
namespace Go.Proofs.YtlcgfgbdehdndaaDoor
open Go Go.RowKit

theorem lines_againS {σ : Type} (g : σ → List UInt8 → Option (σ × List Pc)) (g0 : ∀ st, g st [] = some (st, [])) (gw : ∀ st s st' ps, g st s = some (st', ps) → wholeL ps = s) (b : List UInt8) (hb : ∀ c ∈ b, smB c = true) (ga : ∀ st s st' ps, (∀ c ∈ s, nEol c = true) → g st s = some (st', ps) → g st (wholeL (ps.map (subP b))) = some (st', ps.map (subP b))) : ∀ (f : Nat) (st : σ) (r : List UInt8) (i : Nat) (ps : List Pc), r.length ≤ f → walkS g st (linesF f r i) = .inl ps →
    (∀ f' i', (wholeL (ps.map (subP b))).length ≤ f' → walkS g st (linesF f' (wholeL (ps.map (subP b))) i') = .inl (ps.map (subP b))) ∧ (r[0]? ≠ some 10 → (wholeL (ps.map (subP b)))[0]? ≠ some 10)
  | 0, st, r, i, ps, hf, h => by
    simp [linesF, walkS] at h; subst h
    exact ⟨fun f' i' _ => by simp [wholeL_nil, linesF_nil, walkS], fun _ => by simp [wholeL_nil]⟩
  | f + 1, st, r, i, ps, hf, h => by
    by_cases hr : r = []
    · subst hr
      simp [linesF, walkS] at h; subst h
      exact ⟨fun f' i' _ => by simp [wholeL_nil, linesF_nil, walkS], fun _ => by simp [wholeL_nil]⟩
    · have hpos := eol_pos hr
      rw [linesF, if_neg hr] at h
      obtain ⟨t, ht⟩ := ln_pre r
      have hd : r.drop ((lnT r).length + (lnE r).length) = t := by
        conv => lhs; arg 2; rw [ht, ← List.append_assoc]
        rw [← List.length_append]; exact List.drop_left
      rw [hd] at h
      have hl := congrArg List.length ht
      simp only [List.length_append] at hl
      have hTin : ∀ c ∈ lnT r, nEol c = true := fun c hc => tw_mem _ _ _ hc
      have hD : r.drop (lnT r).length = lnE r ++ t := by
        conv => lhs; arg 2; rw [ht]
        exact List.drop_left
      have hE3 := eol_three (r.drop (lnT r).length)
      have hout : ∀ c D', r.drop (lnT r).length = c :: D' → nEol c = false := fun c D' e => by
        have hlt : (r.takeWhile nEol).length < r.length := by
          have := congrArg List.length e; rw [List.length_drop] at this; simp at this; unfold lnT at this; omega
        have h1 := tw_out nEol r hlt
        have h2 : r[(r.takeWhile nEol).length]? = some c := by
          have := congrArg (fun l => l[0]?) e
          simp only [List.getElem?_drop] at this
          simpa [lnT] using this
        rw [List.getElem?_eq_getElem hlt] at h2
        injection h2 with h2
        rw [h2] at h1; exact h1
      rw [show eolOf (r.drop (lnT r).length) = lnE r from rfl, hD] at hE3
      rw [hD] at hout
      generalize lnT r = T at *
      generalize lnE r = E at *
      cases hq : g st T with
      | none => rw [walkS_none hq] at h; cases h
      | some sq =>
        obtain ⟨st', qs⟩ := sq
        rw [walkS_some hq] at h
        cases hw : walkS g st' (linesF f t (i + (T.length + E.length))) with
        | inr a => rw [hw] at h; cases h
        | inl rs =>
          rw [hw] at h
          injection h with h
          subst h
          obtain ⟨ih1, ih2⟩ := lines_againS g g0 gw b hb ga f st' t _ rs (by omega) hw
          have hag := ga st T st' qs hTin hq
          have hwT := gw st T st' qs hq
          have hEm : (endP E).map (subP b) = endP E := sub_marks b _ (fun p hp => by unfold endP at hp; split at hp; simp at hp; simp at hp; subst hp; rfl)
          have hEw : wholeL (endP E) = E := by
            unfold endP
            by_cases e : E = []
            · rw [if_pos e, e]; rfl
            · rw [if_neg e]; exact wholeL_mk _
          have hT' : ∀ c ∈ wholeL (qs.map (subP b)), nEol c = true := fun c hc => by
            rcases sub_mem b qs c hc with h | h
            · rw [hwT] at h; exact hTin c h
            · have := hb c h
              unfold smB at this
              simp only [Bool.and_eq_true, decide_eq_true_eq] at this
              unfold nEol
              simp only [Bool.and_eq_true, bne_iff_ne, ne_eq]
              constructor <;> (intro e; subst e; simp at this)
          have hTe : wholeL (qs.map (subP b)) = [] → T = [] := fun e => by
            rw [e] at hag
            have : qs.map (subP b) = [] := by
              rw [g0] at hag
              injection hag with hag
              injection hag with _ hag
              exact hag.symm
            rw [← hwT, List.map_eq_nil_iff.1 this]; rfl
          rw [List.map_append, List.map_append, hEm, wholeL_append, wholeL_append, hEw]
          generalize hTT : wholeL (qs.map (subP b)) = T' at *
          generalize hNN : wholeL (rs.map (subP b)) = N at *
          have hEN : (∀ c, (E ++ N)[0]? = some c → nEol c = false) ∧ eolOf (E ++ N) = E ∧ (E = [] → t = [] ∧ N = []) := by
            rcases hE3 with ⟨e1, e2⟩ | ⟨D', e1, e2⟩ | ⟨c, D', e1, e2, e3⟩
            · obtain ⟨rfl, rfl⟩ := List.append_eq_nil_iff.1 e1
              rw [linesF_nil] at hw
              simp [walkS] at hw
              subst hw
              subst hNN
              exact ⟨by simp [wholeL_nil], by simp [wholeL_nil, eolOf], by simp [wholeL_nil]⟩
            · subst e2
              exact ⟨by simp; decide, rfl, by simp⟩
            · subst e2
              have h1 := hout c D' e1
              have h2 : D' = t := by simpa using e1.symm
              subst h2
              exact ⟨by intro d hd; simp at hd; subst hd; exact h1, eol_one c N (fun h => ih2 (e3 h)), by simp⟩
          obtain ⟨hN0, hNe, hNn⟩ := hEN
          have l1 : lnT (T' ++ (E ++ N)) = T' := tw_app nEol T' (E ++ N) hT' hN0
          have l2 : lnE (T' ++ (E ++ N)) = E := by unfold lnE; rw [l1, List.drop_left]; exact hNe
          have hne : T' ++ (E ++ N) ≠ [] := fun e => by
            obtain ⟨e1, e2⟩ := List.append_eq_nil_iff.1 e
            obtain ⟨e3, _⟩ := List.append_eq_nil_iff.1 e2
            have := hTe e1
            rw [this, e3] at hpos
            simp at hpos
          have hp2 := eol_pos hne
          rw [l1, l2] at hp2
          rw [List.append_assoc]
          refine ⟨fun f' i' hf' => ?_, fun h0 => ?_⟩
          · simp only [List.length_append] at hf'
            obtain ⟨m, rfl⟩ : ∃ m, f' = m + 1 := ⟨f' - 1, by omega⟩
            rw [linesF, if_neg hne, l1, l2]
            have hd2 : (T' ++ (E ++ N)).drop (T'.length + E.length) = N := by
              rw [← List.append_assoc, ← List.length_append]; exact List.drop_left
            rw [hd2, walkS_some hag, ih1 m _ (by omega)]
            simp [pre]
          · by_cases e : T' = []
            · have eT := hTe e
              rw [e, List.nil_append]
              rw [ht, eT, List.nil_append] at h0
              cases E with
              | nil => have := hNn rfl; rw [this.2]; simp
              | cons c E' => simpa using h0
            · obtain ⟨c, l, hc⟩ := List.exists_cons_of_ne_nil e
              rw [hc]
              intro h10
              simp at h10
              have := hT' c (by rw [hc]; simp)
              rw [h10] at this
              exact absurd this (by decide)
theorem changes_plainS {σ : Type} (g : σ → List UInt8 → Option (σ × List Pc)) (g0 : ∀ st, g st [] = some (st, [])) (gw : ∀ st s st' ps, g st s = some (st', ps) → wholeL ps = s) (b : List UInt8) (hb : ∀ c ∈ b, smB c = true) (ga : ∀ st s st' ps, (∀ c ∈ s, nEol c = true) → g st s = some (st', ps) → g st (wholeL (ps.map (subP b))) = some (st', ps.map (subP b))) (st : σ) (t : List UInt8) (ps : List Pc) (h : walkS g st (linesL t) = .inl ps) : walkS g st (linesL (wholeL (ps.map (subP b)))) = .inl (ps.map (subP b)) :=
  (lines_againS g g0 gw b hb ga t.length st t 0 ps (Nat.le_refl _) h).1 _ 0 (Nat.le_refl _)
theorem nmC_walkS {σ : Type} (g : σ → List UInt8 → Option (σ × List Pc)) (gn : ∀ st s st' ps, g st s = some (st', ps) → nmC ps ≤ s.length + 1) : ∀ (f : Nat) (st : σ) (r : List UInt8) (i : Nat) (ps : List Pc), walkS g st (linesF f r i) = .inl ps → nmC ps ≤ 2 * r.length
  | 0, st, r, i, ps, h => by simp [linesF, walkS] at h; subst h; simp [nmC]
  | f + 1, st, r, i, ps, h => by
    by_cases hr : r = []
    · subst hr
      simp [linesF, walkS] at h; subst h; simp [nmC]
    · have hpos := eol_pos hr
      have hle := ln_le r
      rw [linesF, if_neg hr] at h
      cases hq : g st (lnT r) with
      | none => rw [walkS_none hq] at h; cases h
      | some sq =>
        obtain ⟨st', qs⟩ := sq
        rw [walkS_some hq] at h
        cases hw : walkS g st' (linesF f (r.drop ((lnT r).length + (lnE r).length)) (i + ((lnT r).length + (lnE r).length))) with
        | inr a => rw [hw] at h; cases h
        | inl rs =>
          rw [hw] at h
          injection h with h
          subst h
          have h1 := gn _ _ _ _ hq
          have h2 := nmC_walkS g gn f _ _ _ _ hw
          have h3 : nmC (endP (lnE r)) = 0 := nmC_marks _ (fun p hp => by unfold endP at hp; split at hp; simp at hp; simp at hp; subst hp; rfl)
          rw [List.length_drop] at h2
          rw [nmC_append, nmC_append, h3]
          omega
theorem walkS_wholeL {σ : Type} (g : σ → List UInt8 → Option (σ × List Pc)) (gw : ∀ st s st' ps, g st s = some (st', ps) → wholeL ps = s) : ∀ (l : List Ln) (st : σ) (ps : List Pc), walkS g st l = .inl ps → wholeL ps = (l.map fun x : Ln => x.1 ++ x.2.1).flatten
  | [], st, ps, h => by simp [walkS] at h; subst h; rfl
  | x :: l, st, ps, h => by
    cases hx : g st x.1 with
    | none => rw [walkS_none hx] at h; cases h
    | some sq =>
      obtain ⟨st', qs⟩ := sq
      rw [walkS_some hx] at h
      cases hw : walkS g st' l with
      | inr a => rw [hw] at h; cases h
      | inl rs =>
        rw [hw] at h
        injection h with h
        subst h
        have h2 := walkS_wholeL g gw l st' rs hw
        have h3 : wholeL (endP x.2.1) = x.2.1 := by
          unfold endP
          by_cases e : x.2.1 = []
          · rw [if_pos e, e]; rfl
          · rw [if_neg e]; exact wholeL_mk _
        rw [wholeL_append, wholeL_append, gw _ _ _ _ hx, h3, h2]; simp
theorem walkS_whole {σ : Type} (g : σ → List UInt8 → Option (σ × List Pc)) (gw : ∀ st s st' ps, g st s = some (st', ps) → wholeL ps = s) (st : σ) (t : List UInt8) (ps : List Pc) (h : walkS g st (linesL t) = .inl ps) : wholeL ps = t := by
  rw [walkS_wholeL g gw _ _ _ h]; exact linesF_whole _ _ _ (Nat.le_refl _)
theorem wt_walkS {σ : Type} (g : σ → List UInt8 → Option (σ × List Pc)) (gl : ∀ st s st' ps, g st s = some (st', ps) → ps.length ≤ 4 * s.length + 4) : ∀ (l : List Ln) (st : σ) (ps : List Pc), walkS g st l = .inl ps → ps.length ≤ wt l
  | [], st, ps, h => by simp [walkS] at h; subst h; simp
  | x :: l, st, ps, h => by
    cases hx : g st x.1 with
    | none => rw [walkS_none hx] at h; cases h
    | some sq =>
      obtain ⟨st', qs⟩ := sq
      rw [walkS_some hx] at h
      cases hw : walkS g st' l with
      | inr a => rw [hw] at h; cases h
      | inl rs =>
        rw [hw] at h
        injection h with h
        subst h
        have h1 := gl _ _ _ _ hx
        have h2 := wt_walkS g gl l st' rs hw
        simp only [List.length_append, wt]
        omega
theorem walkS_len {σ : Type} (g : σ → List UInt8 → Option (σ × List Pc)) (gl : ∀ st s st' ps, g st s = some (st', ps) → ps.length ≤ 4 * s.length + 4) (st : σ) (t : List UInt8) (ps : List Pc) (h : walkS g st (linesL t) = .inl ps) : ps.length ≤ 9 * t.length := by
  have h1 := wt_walkS g gl _ _ _ h
  have h2 := wt_le t.length t 0
  unfold linesL at h1
  omega
/-- The new script's length: at most 500 + 1000 * 50 bytes. -/
theorem changes_lenS {σ : Type} (g : σ → List UInt8 → Option (σ × List Pc)) (gw : ∀ st s st' ps, g st s = some (st', ps) → wholeL ps = s) (gn : ∀ st s st' ps, g st s = some (st', ps) → nmC ps ≤ s.length + 1) (b : List UInt8) (hb : b.length ≤ 50) (st : σ) (t : List UInt8) (ht : t.length ≤ 500) (ps : List Pc) (h : walkS g st (linesL t) = .inl ps) : (wholeL (ps.map (subP b))).length ≤ 50500 := by
  have h1 := sub_len b 50 hb ps
  have h2 := nmC_walkS g gn t.length st t 0 ps h
  rw [walkS_whole g gw st t ps h] at h1
  omega
end Go.Proofs.YtlcgfgbdehdndaaDoor
