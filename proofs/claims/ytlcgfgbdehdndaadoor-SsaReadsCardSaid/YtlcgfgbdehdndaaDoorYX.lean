/- Texts of a song replaced by small letters: the song reads again as the pieces with that text (LrcChanges): plain lists. -/
import Derived.Test.YtlcgfgbdehdndaaDoorYV
set_option maxRecDepth 100000
set_option maxHeartbeats 1000000
namespace Go.Proofs.YtlcgfgbdehdndaaDoor
open Go Go.RowKit

theorem tw_mem (p : UInt8 → Bool) : ∀ (l : List UInt8) (c : UInt8), c ∈ l.takeWhile p → p c = true
  | [], c, h => by simp at h
  | a :: l, c, h => by
    by_cases ha : p a = true
    · rw [List.takeWhile_cons_of_pos ha] at h
      rcases List.mem_cons.1 h with rfl | h
      · exact ha
      · exact tw_mem p l c h
    · rw [List.takeWhile_cons_of_neg ha] at h
      simp at h
def subP (b : List UInt8) (p : Pc) : Pc := if p.1 then p else (p.1, p.2.1, b)
theorem subP_mk (b x : List UInt8) : subP b (mk x) = mk x := rfl
theorem timeN_same (r y : List UInt8) (n : Nat) (hn : timeN r = n) (h0 : n ≠ 0) : timeN (r.take n ++ y) = n ∧ n ≤ r.length := by
  have hr := timeN_rng r
  have h7 : 7 ≤ n ∧ n ≤ 11 ∧ n ≤ r.length := by omega
  obtain ⟨h7, h11, hl⟩ := h7
  refine ⟨?_, hl⟩
  have h := (timeN_at r n h7 h11).1 hn
  obtain ⟨a, c, d⟩ := h
  have hlen : (r.take n).length = n := by rw [List.length_take]; omega
  refine (timeN_at _ n h7 h11).2 ⟨?_, ?_, ?_⟩
  · rw [List.take_append_of_le_length (by omega), List.take_take, Nat.min_eq_left (by omega)]; exact a
  · rw [List.getElem?_append_left (by omega), List.getElem?_take_of_lt (by omega)]; exact c
  · rw [List.take_append_of_le_length (by omega), List.take_take, Nat.min_eq_left (by omega)]; exact d
theorem times_again : ∀ (f : Nat) (r x : List UInt8), x[0]? ≠ some 91 → ∀ f', (wholeL (timesF f r).1 ++ x).length ≤ f' → timesF f' (wholeL (timesF f r).1 ++ x) = ((timesF f r).1, x) ∧ (∀ p ∈ (timesF f r).1, p.1 = true)
  | 0, r, x, hx, f', _ => by simp only [timesF, wholeL_nil, List.nil_append]; exact ⟨timesF_end _ _ (time_no x hx), by simp⟩
  | f + 1, r, x, hx, f', hf => by
    by_cases h : timeN r = 0
    · rw [timesF_end _ _ h]; simp only [wholeL_nil, List.nil_append]; exact ⟨timesF_end _ _ (time_no x hx), by simp⟩
    · rw [timesF_go h] at hf ⊢
      simp only at hf ⊢
      have e : wholeL (mk (r.take (timeN r)) :: (timesF f (r.drop (timeN r))).1) = r.take (timeN r) ++ wholeL (timesF f (r.drop (timeN r))).1 := by simp [wholeL, mk]
      rw [e, List.append_assoc] at hf ⊢
      obtain ⟨s1, s2⟩ := timeN_same r (wholeL (timesF f (r.drop (timeN r))).1 ++ x) _ rfl h
      have hlen : (r.take (timeN r)).length = timeN r := by rw [List.length_take]; omega
      rw [List.length_append, hlen] at hf
      obtain ⟨g, rfl⟩ : ∃ g, f' = g + 1 := ⟨f' - 1, by omega⟩
      obtain ⟨i1, i2⟩ := times_again f (r.drop (timeN r)) x hx g (by omega)
      rw [timesF_go (by rw [s1]; exact h), s1]
      have t1 : (r.take (timeN r) ++ (wholeL (timesF f (r.drop (timeN r))).1 ++ x)).take (timeN r) = r.take (timeN r) := by
        rw [List.take_append_of_le_length (by omega), List.take_take, Nat.min_self]
      have t2 : (r.take (timeN r) ++ (wholeL (timesF f (r.drop (timeN r))).1 ++ x)).drop (timeN r) = wholeL (timesF f (r.drop (timeN r))).1 ++ x := by
        conv => lhs; arg 1; rw [← hlen]
        exact List.drop_left
      rw [t1, t2, i1]
      exact ⟨rfl, fun p hp => by rcases List.mem_cons.1 hp with rfl | hp; rfl; exact i2 p hp⟩
theorem sub_marks (b : List UInt8) : ∀ l : List Pc, (∀ p ∈ l, p.1 = true) → l.map (subP b) = l
  | [], _ => rfl
  | p :: l, h => by rw [List.map_cons, sub_marks b l (fun q hq => h q (by simp [hq]))]; simp [subP, h p (by simp)]
theorem note_shape (s : List UInt8) (ps : List Pc) (h : noteL s = some ps) : ∃ n v : List UInt8, n ≠ [] ∧ (∀ c ∈ n, smB c = true) ∧ ps = [mk (91 :: (n ++ [58])), (false, n, v), mk [93]] := by
  unfold noteL at h
  split at h
  · rename_i hc
    obtain ⟨h1, h2, h3, h4⟩ := hc
    injection h with h
    cases s with
    | nil => simp at h1
    | cons c l =>
      simp at h1
      subst h1
      unfold nmN at h h3 h4
      rw [List.drop_succ_cons, List.drop_zero] at h h3 h4
      generalize hm : (l.takeWhile smB).length = m at h h3 h4
      have hml : m ≤ l.length := by rw [← hm]; exact tw_le smB l
      have hn : l.take m = l.takeWhile smB := by
        conv => lhs; rw [tw_pre smB l, ← hm]
        exact List.take_left
      rw [show 1 + m = m + 1 by omega] at h h4
      refine ⟨l.take m, ((91 :: l).take ((91 :: l).length - 1)).drop (m + 1 + 1), ?_, ?_, ?_⟩
      · intro e; have := congrArg List.length e; rw [List.length_take, Nat.min_eq_left hml, List.length_nil] at this; omega
      · rw [hn]; intro c hc
        exact tw_mem _ _ _ hc
      · rw [← h]
        have e1 : (91 :: l).take (m + 1 + 1) = 91 :: (l.take m ++ [58]) := by
          rw [List.take_succ_cons]
          congr 1
          have h5 : l[m]? = some 58 := by simpa using h4
          rw [List.take_add_one, h5]; rfl
        have e2 : ((91 :: l).take (m + 1)).drop 1 = l.take m := by simp
        rw [e1, e2]
  · cases h
theorem lrc_again (b : List UInt8) (hb0 : b ≠ []) (hb : ∀ c ∈ b, smB c = true) (s : List UInt8) (ps : List Pc) (h : lrcL s = some ps) : lrcL (wholeL (ps.map (subP b))) = some (ps.map (subP b)) := by
  have hb91 : b[0]? ≠ some 91 := fun e => by have := hb 91 (List.mem_of_getElem? e); exact absurd this (by decide)
  have hb93 : 93 ∉ b := fun e => by have := hb 93 e; exact absurd this (by decide)
  unfold lrcL at h
  split at h
  · injection h with h; subst h; rfl
  · split at h
    · obtain ⟨n, v, n0, hn, rfl⟩ := note_shape s ps h
      have := lrc_second n b n0 hn hb93
      have e : wholeL ([mk (91 :: (n ++ [58])), (false, n, v), mk [93]].map (subP b)) = 91 :: (n ++ 58 :: (b ++ [93])) := by simp [wholeL, mk, subP]
      rw [e, this]; rfl
    · rename_i hs ht
      injection h with h
      subst h
      rw [List.map_append, wholeL_append]
      have hx : ∃ x, (tailP (timesF s.length s).2).map (subP b) = tailP x ∧ wholeL (tailP x) = x ∧ x[0]? ≠ some 91 := by
        by_cases e : (timesF s.length s).2 = []
        · exact ⟨[], by rw [e]; rfl, rfl, by simp⟩
        · exact ⟨b, by simp [tailP, e, hb0, subP], by simp [tailP, hb0, wholeL], hb91⟩
      obtain ⟨x, x1, x2, x3⟩ := hx
      obtain ⟨a1, a2⟩ := times_again s.length s x x3 _ (Nat.le_refl _)
      rw [x1, x2, sub_marks b _ a2]
      unfold lrcL
      rw [a1]
      simp only
      rw [if_neg (fun e => ht (by rw [e] at a1; have := congrArg Prod.fst a1; simpa [timesF] using this.symm)), if_neg ht]
theorem sub_mem (b : List UInt8) (l : List Pc) (c : UInt8) (h : c ∈ wholeL (l.map (subP b))) : c ∈ wholeL l ∨ c ∈ b := by
  induction l with
  | nil => simp [wholeL] at h
  | cons p l ih =>
    have e : ∀ (q : Pc) (r : List Pc), wholeL (q :: r) = q.2.2 ++ wholeL r := fun q r => by simp [wholeL]
    rw [List.map_cons, e] at h
    rw [e]
    rcases List.mem_append.1 h with h | h
    · unfold subP at h
      split at h
      · exact .inl (List.mem_append_left _ h)
      · exact .inr h
    · rcases ih h with h | h
      · exact .inl (List.mem_append_right _ h)
      · exact .inr h
theorem eol_three (D : List UInt8) : (D = [] ∧ eolOf D = []) ∨ (∃ D', D = 13 :: 10 :: D' ∧ eolOf D = [13, 10]) ∨ (∃ c D', D = c :: D' ∧ eolOf D = [c] ∧ (c = 13 → D'[0]? ≠ some 10)) := by
  unfold eolOf
  split
  · exact .inr (.inl ⟨_, rfl, rfl⟩)
  · rename_i c D' hne
    refine .inr (.inr ⟨c, D', rfl, rfl, fun hc e => ?_⟩)
    cases D' with
    | nil => simp at e
    | cons d D'' => simp at e; subst hc e; exact hne _ rfl rfl
  · exact .inl ⟨rfl, rfl⟩
theorem eol_one (c : UInt8) (N : List UInt8) (h : c = 13 → N[0]? ≠ some 10) : eolOf (c :: N) = [c] := by
  rcases eol_three (c :: N) with ⟨e, _⟩ | ⟨D', e, _⟩ | ⟨d, D', e, e2, _⟩
  · cases e
  · injection e with e1 e2; rw [e2] at h; exact absurd rfl (h e1)
  · injection e with e1 _; rw [e2, e1]
theorem lines_again (b : List UInt8) (hb0 : b ≠ []) (hb : ∀ c ∈ b, smB c = true) : ∀ (f : Nat) (r : List UInt8) (i : Nat) (ps : List Pc), r.length ≤ f → walkL lrcL (linesF f r i) = .inl ps →
    (∀ f' i', (wholeL (ps.map (subP b))).length ≤ f' → walkL lrcL (linesF f' (wholeL (ps.map (subP b))) i') = .inl (ps.map (subP b))) ∧ (r[0]? ≠ some 10 → (wholeL (ps.map (subP b)))[0]? ≠ some 10)
  | 0, r, i, ps, hf, h => by
    simp [linesF, walkL] at h; subst h
    exact ⟨fun f' i' _ => by simp [wholeL_nil, linesF_nil, walkL], fun _ => by simp [wholeL_nil]⟩
  | f + 1, r, i, ps, hf, h => by
    by_cases hr : r = []
    · subst hr
      simp [linesF, walkL] at h; subst h
      exact ⟨fun f' i' _ => by simp [wholeL_nil, linesF_nil, walkL], fun _ => by simp [wholeL_nil]⟩
    · have hpos := eol_pos hr
      rw [linesF, if_neg hr] at h
      obtain ⟨t, ht⟩ := ln_pre r
      have hd : r.drop ((lnT r).length + (lnE r).length) = t := by
        conv => lhs; arg 2; rw [ht, ← List.append_assoc]
        rw [← List.length_append]; exact List.drop_left
      rw [hd] at h
      have hl := congrArg List.length ht
      simp only [List.length_append] at hl
      have hTin : ∀ c ∈ lnT r, nEol c = true := fun c hc => tw_mem _ _ _ hc
      have hD : r.drop (lnT r).length = lnE r ++ t := by
        conv => lhs; arg 2; rw [ht]
        exact List.drop_left
      have hE3 := eol_three (r.drop (lnT r).length)
      have hout : ∀ c D', r.drop (lnT r).length = c :: D' → nEol c = false := fun c D' e => by
        have hlt : (r.takeWhile nEol).length < r.length := by
          have := congrArg List.length e; rw [List.length_drop] at this; simp at this; unfold lnT at this; omega
        have h1 := tw_out nEol r hlt
        have h2 : r[(r.takeWhile nEol).length]? = some c := by
          have := congrArg (fun l => l[0]?) e
          simp only [List.getElem?_drop] at this
          simpa [lnT] using this
        rw [List.getElem?_eq_getElem hlt] at h2
        injection h2 with h2
        rw [h2] at h1; exact h1
      rw [show eolOf (r.drop (lnT r).length) = lnE r from rfl, hD] at hE3
      rw [hD] at hout
      generalize lnT r = T at *
      generalize lnE r = E at *
      cases hq : lrcL T with
      | none => rw [walkL_none hq] at h; cases h
      | some qs =>
        rw [walkL_some hq] at h
        cases hw : walkL lrcL (linesF f t (i + (T.length + E.length))) with
        | inr a => rw [hw] at h; cases h
        | inl rs =>
          rw [hw] at h
          injection h with h
          subst h
          obtain ⟨ih1, ih2⟩ := lines_again b hb0 hb f t _ rs (by omega) hw
          have hag := lrc_again b hb0 hb T qs hq
          have hwT := lrcL_whole T qs hq
          have hEm : (endP E).map (subP b) = endP E := sub_marks b _ (fun p hp => by unfold endP at hp; split at hp; simp at hp; simp at hp; subst hp; rfl)
          have hEw : wholeL (endP E) = E := by
            unfold endP
            by_cases e : E = []
            · rw [if_pos e, e]; rfl
            · rw [if_neg e]; exact wholeL_mk _
          have hT' : ∀ c ∈ wholeL (qs.map (subP b)), nEol c = true := fun c hc => by
            rcases sub_mem b qs c hc with h | h
            · rw [hwT] at h; exact hTin c h
            · have := hb c h
              unfold smB at this
              simp only [Bool.and_eq_true, decide_eq_true_eq] at this
              unfold nEol
              simp only [Bool.and_eq_true, bne_iff_ne, ne_eq]
              constructor <;> (intro e; subst e; simp at this)
          have hTe : wholeL (qs.map (subP b)) = [] → T = [] := fun e => by
            rw [e] at hag
            have : qs.map (subP b) = [] := by
              have h9 : lrcL [] = some [] := rfl
              rw [h9] at hag
              injection hag with hag
              exact hag.symm
            rw [← hwT, List.map_eq_nil_iff.1 this]; rfl
          rw [List.map_append, List.map_append, hEm, wholeL_append, wholeL_append, hEw]
          generalize hTT : wholeL (qs.map (subP b)) = T' at *
          generalize hNN : wholeL (rs.map (subP b)) = N at *
          have hEN : (∀ c, (E ++ N)[0]? = some c → nEol c = false) ∧ eolOf (E ++ N) = E ∧ (E = [] → t = [] ∧ N = []) := by
            rcases hE3 with ⟨e1, e2⟩ | ⟨D', e1, e2⟩ | ⟨c, D', e1, e2, e3⟩
            · obtain ⟨rfl, rfl⟩ := List.append_eq_nil_iff.1 e1
              rw [linesF_nil] at hw
              simp [walkL] at hw
              subst hw
              subst hNN
              exact ⟨by simp [wholeL_nil], by simp [wholeL_nil, eolOf], by simp [wholeL_nil]⟩
            · subst e2
              exact ⟨by simp; decide, rfl, by simp⟩
            · subst e2
              have h1 := hout c D' e1
              have h2 : D' = t := by simpa using e1.symm
              subst h2
              exact ⟨by intro d hd; simp at hd; subst hd; exact h1, eol_one c N (fun h => ih2 (e3 h)), by simp⟩
          obtain ⟨hN0, hNe, hNn⟩ := hEN
          have l1 : lnT (T' ++ (E ++ N)) = T' := tw_app nEol T' (E ++ N) hT' hN0
          have l2 : lnE (T' ++ (E ++ N)) = E := by unfold lnE; rw [l1, List.drop_left]; exact hNe
          have hne : T' ++ (E ++ N) ≠ [] := fun e => by
            obtain ⟨e1, e2⟩ := List.append_eq_nil_iff.1 e
            obtain ⟨e3, _⟩ := List.append_eq_nil_iff.1 e2
            have := hTe e1
            rw [this, e3] at hpos
            simp at hpos
          have hp2 := eol_pos hne
          rw [l1, l2] at hp2
          rw [List.append_assoc]
          refine ⟨fun f' i' hf' => ?_, fun h0 => ?_⟩
          · simp only [List.length_append] at hf'
            obtain ⟨g, rfl⟩ : ∃ g, f' = g + 1 := ⟨f' - 1, by omega⟩
            rw [linesF, if_neg hne, l1, l2]
            have hd2 : (T' ++ (E ++ N)).drop (T'.length + E.length) = N := by
              rw [← List.append_assoc, ← List.length_append]; exact List.drop_left
            rw [hd2, walkL_some hag, ih1 g _ (by omega)]
            simp [pre]
          · by_cases e : T' = []
            · have eT := hTe e
              rw [e, List.nil_append]
              rw [ht, eT, List.nil_append] at h0
              cases E with
              | nil => have := hNn rfl; rw [this.2]; simp
              | cons c E' => simpa using h0
            · obtain ⟨c, l, hc⟩ := List.exists_cons_of_ne_nil e
              rw [hc]
              intro h10
              simp at h10
              have := hT' c (by rw [hc]; simp)
              rw [h10] at this
              exact absurd this (by decide)
theorem changes_plain (b : List UInt8) (hb0 : b ≠ []) (hb : ∀ c ∈ b, smB c = true) (t : List UInt8) (ps : List Pc) (h : walkL lrcL (linesL t) = .inl ps) : walkL lrcL (linesL (wholeL (ps.map (subP b)))) = .inl (ps.map (subP b)) :=
  (lines_again b hb0 hb t.length t 0 ps (Nat.le_refl _) h).1 _ 0 (Nat.le_refl _)
/-- How many pieces are no marks. -/
def nmC (l : List Pc) : Nat := (l.filter fun p : Pc => !p.1).length
theorem nmC_append (a c : List Pc) : nmC (a ++ c) = nmC a + nmC c := by simp [nmC]
theorem nmC_marks (l : List Pc) (h : ∀ p ∈ l, p.1 = true) : nmC l = 0 := by
  unfold nmC
  rw [List.length_eq_zero_iff, List.filter_eq_nil_iff]
  intro p hp
  simp [h p hp]
theorem nmC_line (s : List UInt8) (ps : List Pc) (h : lrcL s = some ps) : nmC ps ≤ 1 := by
  unfold lrcL at h
  split at h
  · injection h with h; subst h; simp [nmC]
  · split at h
    · obtain ⟨n, v, _, _, rfl⟩ := note_shape s ps h
      simp [nmC, mk]
    · injection h with h
      subst h
      obtain ⟨_, a2⟩ := times_again s.length s [] (by simp) _ (Nat.le_refl _)
      rw [nmC_append, nmC_marks _ a2]
      unfold tailP
      split <;> simp [nmC]
theorem nmC_walk : ∀ (l : List Ln) (ps : List Pc), walkL lrcL l = .inl ps → nmC ps ≤ l.length
  | [], ps, h => by simp [walkL] at h; subst h; simp [nmC]
  | x :: l, ps, h => by
    cases hx : lrcL x.1 with
    | none => rw [walkL_none hx] at h; cases h
    | some qs =>
      rw [walkL_some hx] at h
      cases hw : walkL lrcL l with
      | inr a => rw [hw] at h; cases h
      | inl rs =>
        rw [hw] at h
        injection h with h
        subst h
        have h1 := nmC_line _ _ hx
        have h2 := nmC_walk l rs hw
        have h3 : nmC (endP x.2.1) = 0 := nmC_marks _ (fun p hp => by unfold endP at hp; split at hp; simp at hp; simp at hp; subst hp; rfl)
        rw [nmC_append, nmC_append, h3, List.length_cons]
        omega
theorem lines_len : ∀ (f : Nat) (r : List UInt8) (i : Nat), (linesF f r i).length ≤ r.length
  | 0, r, i => by simp [linesF]
  | f + 1, r, i => by
    unfold linesF
    split
    · simp
    · rename_i h
      have h1 := eol_pos h
      have h2 := ln_le r
      have h4 := lines_len f (r.drop ((lnT r).length + (lnE r).length)) (i + ((lnT r).length + (lnE r).length))
      rw [List.length_drop] at h4
      simp only [List.length_cons]
      omega
theorem sub_len (b : List UInt8) (m : Nat) (hm : b.length ≤ m) : ∀ l : List Pc, (wholeL (l.map (subP b))).length ≤ (wholeL l).length + nmC l * m
  | [] => by simp [wholeL]
  | p :: l => by
    have ih := sub_len b m hm l
    have e : ∀ (q : Pc) (r : List Pc), wholeL (q :: r) = q.2.2 ++ wholeL r := fun q r => by simp [wholeL]
    rw [List.map_cons, e, e, List.length_append, List.length_append]
    cases hp : p.1 with
    | true =>
      have h1 : nmC (p :: l) = nmC l := by simp [nmC, hp]
      have h2 : subP b p = p := by simp [subP, hp]
      rw [h1, h2]; omega
    | false =>
      have h1 : nmC (p :: l) = nmC l + 1 := by simp [nmC, hp]
      have h2 : (subP b p).2.2 = b := by simp [subP, hp]
      rw [h1, h2, Nat.add_mul]; omega
/-- The new song's length: at most 500 + 500 * 50 bytes. -/
theorem changes_len (b : List UInt8) (hb : b.length ≤ 50) (t : List UInt8) (ht : t.length ≤ 500) (ps : List Pc) (h : walkL lrcL (linesL t) = .inl ps) : (wholeL (ps.map (subP b))).length ≤ 25500 := by
  have h1 := sub_len b 50 hb ps
  have h2 := nmC_walk _ _ h
  have h3 := lines_len t.length t 0
  rw [walk_whole lrcL lrcL_whole t ps h] at h1
  unfold linesL at h2
  omega
/-- The first k pieces with the new text. -/
def mid (b : List UInt8) (ps : List Pc) (k : Nat) : List Pc := (ps.take k).map (subP b) ++ ps.drop k
theorem mid_at (b : List UInt8) (ps : List Pc) (k : Nat) (hk : k < ps.length) : (mid b ps k)[k]? = ps[k]? := by
  unfold mid
  rw [List.getElem?_append_right (by simp; omega)]
  simp [Nat.min_eq_left (Nat.le_of_lt hk)]
theorem mid_len (b : List UInt8) (ps : List Pc) (k : Nat) : (mid b ps k).length = ps.length := by
  unfold mid; simp; omega
theorem mid_next (b : List UInt8) (ps : List Pc) (k : Nat) (p : Pc) (hp : ps[k]? = some p) : mid b ps (k + 1) = (mid b ps k).set k (subP b p) := by
  have hk : k < ps.length := by
    rcases Nat.lt_or_ge k ps.length with h | h
    · exact h
    · rw [List.getElem?_eq_none h] at hp; cases hp
  have hl : ((ps.take k).map (subP b)).length = k := by simp; omega
  unfold mid
  rw [List.set_append_right _ _ (by omega), hl, Nat.sub_self, List.drop_eq_getElem_cons hk, List.set_cons_zero, List.take_add_one, hp]
  simp
theorem flat3_set {α : Type} (f : α → List Value) (hf : ∀ x, (f x).length = 3) : ∀ (l : List α) (k j : Nat) (x y : α) (v : Value), l[k]? = some x → j < 3 → f y = (f x).set j v → (l.flatMap f).set (k * 3 + j) v = (l.set k y).flatMap f
  | [], k, j, x, y, v, h, _, _ => by simp at h
  | a :: l, 0, j, x, y, v, h, hj, hy => by
    simp at h; subst h
    rw [List.set_cons_zero, List.flatMap_cons, List.flatMap_cons, Nat.zero_mul, Nat.zero_add, List.set_append_left _ _ (by rw [hf]; exact hj), hy]
  | a :: l, k + 1, j, x, y, v, h, hj, hy => by
    have ih := flat3_set f hf l k j x y v (by simpa using h) hj hy
    rw [List.set_cons_succ, List.flatMap_cons, List.flatMap_cons, List.set_append_right _ _ (by rw [hf]; omega), hf, show (k + 1) * 3 + j - 3 = k * 3 + j by omega, ih]
theorem mid_end (b : List UInt8) (ps : List Pc) : mid b ps ps.length = ps.map (subP b) := by unfold mid; simp
end Go.Proofs.YtlcgfgbdehdndaaDoor
