/- What lrc.Parse tells of a time, a text and a note (LrcTexts): plain lists. -/
import Derived.Test.YtlcgfgbdehdndaaDoorYU
set_option maxRecDepth 100000
set_option maxHeartbeats 1000000
namespace Go.Proofs.YtlcgfgbdehdndaaDoor
open Go Go.RowKit

theorem tw_app (p : UInt8 → Bool) : ∀ (a b : List UInt8), (∀ c ∈ a, p c = true) → (∀ c, b[0]? = some c → p c = false) → (a ++ b).takeWhile p = a
  | [], [], _, _ => rfl
  | [], c :: b, _, hb => by have := hb c rfl; simp [this]
  | c :: a, b, ha, hb => by
    rw [List.cons_append, List.takeWhile_cons_of_pos (ha c (by simp)), tw_app p a b (fun x hx => ha x (by simp [hx])) hb]
theorem one_line (t : List UInt8) (hE : ∀ x : Ln, (linesL t)[0]? = some x → x.2.1 = []) : ∀ c ∈ t, nEol c = true := by
  cases t with
  | nil => intro c h; simp at h
  | cons a l =>
    have h1 : lnE (a :: l) = [] := by
      have := hE (lnT (a :: l), lnE (a :: l), 0) (by unfold linesL; rw [List.length_cons, linesF, if_neg (by simp)]; rfl)
      exact this
    generalize a :: l = t at *
    have h2 : t.drop (lnT t).length = [] := by
      unfold lnE at h1
      cases hd : t.drop (lnT t).length with
      | nil => rfl
      | cons c r =>
        rw [hd] at h1
        unfold eolOf at h1
        split at h1
        · simp at h1
        · simp at h1
        · rename_i e; cases e
    have h3 : t.length ≤ (lnT t).length := List.drop_eq_nil_iff.1 h2
    intro c hc
    obtain ⟨k, hk, rfl⟩ := List.getElem_of_mem hc
    exact tw_in nEol t k hk (by unfold lnT at h3; omega)
theorem lines2 (a b : List UInt8) (ha : ∀ c ∈ a, nEol c = true) (hb : ∀ c ∈ b, nEol c = true) (c : UInt8) (bs : List UInt8) (hc : b = c :: bs) : linesL (a ++ 13 :: b) = [(a, [13], 0), (b, [], a.length + 1)] := by
  have e1 : lnT (a ++ 13 :: b) = a := tw_app nEol a (13 :: b) ha (fun c h => by simp at h; subst h; rfl)
  have e2 : lnE (a ++ 13 :: b) = [13] := by
    unfold lnE
    rw [e1, List.drop_left, hc]
    have hc10 : c ≠ 10 := fun e => by have := hb c (by rw [hc]; simp); rw [e] at this; exact absurd this (by decide)
    unfold eolOf
    split
    · rename_i e; simp only [List.cons.injEq] at e; exact absurd e.2.1 hc10
    · rename_i e; simp only [List.cons.injEq] at e; rw [e.1]
    · rename_i e; cases e
  have e3 : lnT b = b := by have := tw_app nEol b [] hb (fun c h => by simp at h); rwa [List.append_nil] at this
  have e4 : lnE b = [] := by unfold lnE; rw [e3, List.drop_length]; rfl
  unfold linesL
  rw [show (a ++ 13 :: b).length = (a.length + b.length) + 1 by simp; omega, linesF, if_neg (by simp), e1, e2]
  rw [show (a ++ 13 :: b).drop (a.length + [(13 : UInt8)].length) = b by rw [← List.drop_drop, List.drop_left]; rfl]
  obtain ⟨f, hf⟩ : ∃ f, a.length + b.length = f + 1 := ⟨a.length + bs.length, by rw [hc]; simp; omega⟩
  rw [hf, linesF, if_neg (by rw [hc]; simp), e3, e4]
  simp [linesF_nil]
def c11 : List UInt8 := [91, 53, 57, 58, 53, 57, 46, 57, 57, 57, 93]
theorem time_c11 (x : List UInt8) : timeN (c11 ++ x) = 11 := by
  have e1 : (c11 ++ x).take 11 = c11 := by simp [c11]
  have e2 : (c11 ++ x).take 10 = c11.take 10 := by simp [c11]
  have e3 : (c11 ++ x).take 1 = [91] := by simp [c11]
  have e4 : Lib.indexByte c11 93 = 10 := by decide +kernel
  unfold timeN
  rw [e1, e3, e4, show (10 : Int).toNat = 10 from rfl, e2, if_pos ⟨rfl, by decide, by decide +kernel⟩]
theorem time_no (x : List UInt8) (h : x[0]? ≠ some 91) : timeN x = 0 := by
  unfold timeN
  rw [if_neg]
  rintro ⟨h1, _⟩
  cases x with
  | nil => simp at h1
  | cons c l => simp at h1; subst h1; exact h rfl
theorem lrc_first (t : List UInt8) (h0 : t ≠ []) (h : t[0]? ≠ some 91) : lrcL (c11 ++ t) = some [mk c11, (false, nText, t)] := by
  have e : timesF (c11 ++ t).length (c11 ++ t) = ([mk c11], t) := by
    rw [show (c11 ++ t).length = (10 + t.length) + 1 by simp [c11]; omega, timesF_go (by rw [time_c11]; decide), time_c11]
    rw [show (c11 ++ t).take 11 = c11 by simp [c11], show (c11 ++ t).drop 11 = t by simp [c11], timesF_end _ _ (time_no t h)]
  unfold lrcL
  rw [if_neg (by simp [c11]), e, if_neg (by simp)]
  simp [tailP, h0]
theorem mom_letter (c : UInt8) (hc : smB c = true) (m : List UInt8) : momB (c :: m) = false := by
  unfold smB at hc
  have hd : digitB c = false := by
    unfold digitB
    simp only [Bool.and_eq_true, decide_eq_true_eq] at hc
    simp
    omega
  unfold momB fm5 fm8 fm9
  simp [likeB, hd]
theorem lrc_second (n v : List UInt8) (hn0 : n ≠ []) (hn : ∀ c ∈ n, smB c = true) (hv : 93 ∉ v) : lrcL (91 :: (n ++ 58 :: (v ++ [93]))) = some [mk (91 :: (n ++ [58])), (false, n, v), mk [93]] := by
  have hs : smB 93 = false := by decide
  have hn93 : 93 ∉ n := fun h => by have := hn _ h; rw [hs] at this; cases this
  obtain ⟨c, n', hcn⟩ := List.exists_cons_of_ne_nil hn0
  have hz : timeN (91 :: (n ++ 58 :: (v ++ [93]))) = 0 := by
    unfold timeN
    rw [if_neg]
    rintro ⟨_, _, h⟩
    generalize (Lib.indexByte (List.take 11 (91 :: (n ++ 58 :: (v ++ [93])))) 93).toNat = k at h
    rw [hcn] at h
    match k, h with
    | 0, h => simp only [List.take_zero, List.drop_nil] at h; exact absurd h (by decide)
    | 1, h => simp only [List.take_succ_cons, List.take_zero, List.drop_succ_cons, List.drop_nil] at h; exact absurd h (by decide)
    | k + 2, h =>
      simp only [List.cons_append, List.take_succ_cons, List.drop_succ_cons, List.drop_zero] at h
      rw [mom_letter c (hn c (by rw [hcn]; simp))] at h
      cases h
  have hl : (91 :: (n ++ 58 :: (v ++ [93]))).length = n.length + v.length + 3 := by simp; omega
  have hsp : (91 :: (n ++ 58 :: (v ++ [93]))) = (91 :: (n ++ 58 :: v)) ++ [93] := by simp
  have hl1 : (91 :: (n ++ 58 :: v)).length = n.length + v.length + 2 := by simp; omega
  have hi : Lib.indexByte (91 :: (n ++ 58 :: (v ++ [93]))) 93 = ((n.length + v.length + 2 : Nat) : Int) := by
    refine idx_uniq 93 _ _ ?_ ?_
    · rw [hsp, ← hl1]; simp
    · intro j hj e
      rw [hsp, List.getElem?_append_left (by omega)] at e
      have := List.mem_of_getElem? e
      simp at this
      rcases this with h | h
      · exact hn93 h
      · exact hv h
  have hm : nmN (91 :: (n ++ 58 :: (v ++ [93]))) = 1 + n.length := by
    unfold nmN
    rw [List.drop_succ_cons, List.drop_zero, tw_app smB n _ hn (fun c h => by simp at h; subst h; decide)]
  unfold lrcL
  rw [if_neg (by simp), timesF_end _ _ hz, if_pos rfl]
  unfold noteL
  have hnl : 0 < n.length := by rw [hcn]; simp
  rw [hm, hi, hl, if_pos ⟨by simp, by omega, by omega, by rw [show 1 + n.length = n.length + 1 by omega]; simp⟩]
  congr 1
  have t1 : (91 :: (n ++ 58 :: (v ++ [93]))).take (1 + n.length + 1) = 91 :: (n ++ [58]) := by
    rw [show 1 + n.length + 1 = (n.length + 1) + 1 by omega, List.take_succ_cons, List.take_append]
    simp [List.take_of_length_le]
  have t2 : ((91 :: (n ++ 58 :: (v ++ [93]))).take (1 + n.length)).drop 1 = n := by
    rw [show 1 + n.length = n.length + 1 by omega, List.take_succ_cons]
    simp
  have t3 : ((91 :: (n ++ 58 :: (v ++ [93]))).take (n.length + v.length + 3 - 1)).drop (1 + n.length + 1) = v := by
    rw [hsp, show n.length + v.length + 3 - 1 = (91 :: (n ++ 58 :: v)).length by rw [hl1]; omega, List.take_left]
    rw [show 1 + n.length + 1 = (n.length + 1) + 1 by omega, List.drop_succ_cons, ← List.drop_drop, List.drop_left]
    rfl
  rw [t1, t2, t3]
theorem texts_plain (t n v : List UInt8) (ht0 : t ≠ []) (ht : t[0]? ≠ some 91) (hte : ∀ c ∈ t, nEol c = true) (hn0 : n ≠ []) (hn : ∀ c ∈ n, smB c = true) (hve : ∀ c ∈ v, nEol c = true) (hv : 93 ∉ v) :
    walkL lrcL (linesL (c11 ++ t ++ 13 :: (91 :: (n ++ 58 :: (v ++ [93]))))) = .inl [mk c11, (false, nText, t), mk [13], mk (91 :: (n ++ [58])), (false, n, v), mk [93]] := by
  have hne : ∀ c ∈ n, nEol c = true := fun c hc => by
    have := hn c hc
    unfold smB at this
    simp only [Bool.and_eq_true, decide_eq_true_eq] at this
    unfold nEol
    simp only [Bool.and_eq_true, bne_iff_ne, ne_eq]
    constructor <;> (intro e; subst e; simp at this)
  have hc11 : ∀ c ∈ c11, nEol c = true := by decide
  rw [lines2 (c11 ++ t) _ (fun c hc => by rcases List.mem_append.1 hc with h | h; exact hc11 c h; exact hte c h) (fun c hc => by
    simp only [List.mem_cons, List.mem_append, List.not_mem_nil, or_false] at hc
    rcases hc with rfl | h | rfl | h | rfl
    · decide
    · exact hne c h
    · decide
    · exact hve c h
    · decide) 91 _ rfl]
  simp [walkL, lrc_first t ht0 ht, lrc_second n v hn0 hn hv, endP]
end Go.Proofs.YtlcgfgbdehdndaaDoor
