/- What ssa tells of a line (ssaL, with the section and its fields for a state), and that it tells the same of a line whose texts are replaced by small letters: plain lists. No condition. -/
import Derived.Test.YtlcgfgbdehdndaaDoorVB
import Derived.Lib.Split
set_option maxRecDepth 100000
set_option maxHeartbeats 1000000
namespace Go.Proofs.YtlcgfgbdehdndaaDoor
open Go Go.RowKit

abbrev Ss := Bool × List (List UInt8)
def kEvents : List UInt8 := [91, 69, 118, 101, 110, 116, 115, 93]
def kFormat : List UInt8 := [70, 111, 114, 109, 97, 116]
def kStart : List UInt8 := [83, 116, 97, 114, 116]
def kEnd : List UInt8 := [69, 110, 100]
def momS : List UInt8 := [48, 58, 48, 48, 58, 48, 48, 46, 48, 48]
def nRemark : List UInt8 := [114, 101, 109, 97, 114, 107]
def keyB (c : UInt8) : Bool := capB c || (decide (97 ≤ c.toNat) && decide (c.toNat ≤ 122)) || c == 32
def secB (s : List UInt8) : Bool := decide (2 < s.length) && (s[0]? == some 91) && decide (Lib.indexByte s 93 = (s.length : Int) - 1)
def keyN (s : List UInt8) : Nat := (s.takeWhile keyB).length
def keyL (s : List UInt8) : Option Nat := if s[0]? ≠ some 32 ∧ 1 ≤ keyN s ∧ s[keyN s]? = some 58 ∧ s[keyN s + 1]? = some 32 then some (keyN s) else none
def cutK (k : Nat) (s : List UInt8) : List (List UInt8) := Lib.splitK [44] 0 k s
def evP (f p : List UInt8) : Option Pc := if f = kStart ∨ f = kEnd then (if likeB p momS = true then some (mk p) else none) else some (false, f, p)
def evsL : List (List UInt8) → List (List UInt8) → Option (List Pc)
  | f :: fs, p :: ps => match evP f p with
    | none => none
    | some x => match evsL fs ps with
      | none => none
      | some r => some (mk [44] :: x :: r)
  | _, _ => some []
def evL (head value : List UInt8) (fs : List (List UInt8)) : Option (List Pc) :=
  if fs = [] then none
  else if (cutK (fs.length - 1) value).length < fs.length then none
  else match evsL fs (cutK (fs.length - 1) value) with
    | none => none
    | some r => some (mk head :: r.drop 1)
def fmtL (v : List UInt8) : List (List UInt8) := (cutK v.length v).map fun x => Lib.trimB x 32
def ssaL (st : Ss) (s : List UInt8) : Option (Ss × List Pc) :=
  if s = [] then some (st, [])
  else if s[0]? = some 59 ∨ s[0]? = some 33 then some (st, [mk (s.take 1), (false, nRemark, s.drop 1)])
  else if secB s = true then some ((s == kEvents, []), [mk s])
  else match keyL s with
    | none => none
    | some n =>
      if s.take n = kFormat then some ((st.1, fmtL (s.drop (n + 2))), [mk s])
      else if st.1 = true then (evL (s.take (n + 2)) (s.drop (n + 2)) st.2).map fun ps => (st, ps)
      else some (st, [mk (s.take (n + 2)), (false, s.take n, s.drop (n + 2))])
/-! Parts between commas. -/
theorem com_cases : ∀ s : List UInt8, (44 ∉ s ∧ Lib.index s [44] = -1) ∨ ∃ a r, s = a ++ 44 :: r ∧ 44 ∉ a ∧ Lib.index s [44] = a.length
  | [] => .inl ⟨by simp, rfl⟩
  | b :: l => by
    by_cases hb : b = 44
    · subst hb
      exact .inr ⟨[], l, rfl, by simp, by simp [Lib.index, List.isPrefixOf]⟩
    · have hp : ([44] : List UInt8).isPrefixOf (b :: l) = false := by
        simp [List.isPrefixOf]; exact fun e => hb e.symm
      have hi : Lib.index (b :: l) [44] = if Lib.index l [44] == -1 then -1 else Lib.index l [44] + 1 := by
        rw [Lib.index, hp]; rfl
      rcases com_cases l with ⟨h1, h2⟩ | ⟨a, r, rfl, h1, h2⟩
      · refine .inl ⟨by simp only [List.mem_cons, not_or]; exact ⟨fun e => hb e.symm, h1⟩, ?_⟩
        rw [hi, h2]; rfl
      · refine .inr ⟨b :: a, r, rfl, by simp only [List.mem_cons, not_or]; exact ⟨fun e => hb e.symm, h1⟩, ?_⟩
        rw [hi, h2]
        have : ¬ ((a.length : Int) == -1) = true := fun e => by have := beq_iff_eq.1 e; omega
        rw [if_neg this]; simp
theorem cutK_no {s : List UInt8} (h : 44 ∉ s) (k : Nat) : cutK k s = [s] := by
  unfold cutK
  rcases com_cases s with ⟨_, h2⟩ | ⟨a, r, rfl, _, _⟩
  · cases k with
    | zero => rfl
    | succ k => rw [Lib.splitK, h2]; rfl
  · simp at h
theorem cutK_com {a r : List UInt8} (h : 44 ∉ a) (k : Nat) : cutK (k + 1) (a ++ 44 :: r) = a :: cutK k r := by
  unfold cutK
  have hi : Lib.index (a ++ 44 :: r) [44] = a.length := by
    rcases com_cases (a ++ 44 :: r) with ⟨h1, _⟩ | ⟨a', r', e, h1, h2⟩
    · simp at h1
    · rw [h2]
      have := congrArg (List.takeWhile (fun c : UInt8 => c != 44)) e
      rw [tw_app (fun c => c != 44) a (44 :: r) (fun c hc => by simp; intro e; subst e; exact h hc) (fun c hc => by simp at hc; subst hc; rfl),
        tw_app (fun c => c != 44) a' (44 :: r') (fun c hc => by simp; intro e; subst e; exact h1 hc) (fun c hc => by simp at hc; subst hc; rfl)] at this
      rw [this]
  have hm : ¬ ((a.length : Int) == -1) = true := fun e => by have := beq_iff_eq.1 e; omega
  rw [Lib.splitK, hi, if_neg hm]
  simp
theorem cutK_zero (s : List UInt8) : cutK 0 s = [s] := rfl
theorem cutK_ne : ∀ (k : Nat) (s : List UInt8), cutK k s ≠ []
  | 0, s => by simp [cutK_zero]
  | k + 1, s => by
    rcases com_cases s with ⟨h1, _⟩ | ⟨a, r, rfl, h1, _⟩
    · simp [cutK_no h1]
    · simp [cutK_com h1]
theorem cutK_le : ∀ (k : Nat) (s : List UInt8), (cutK k s).length ≤ k + 1 ∧ (cutK k s).length ≤ s.length + 1
  | 0, s => by simp [cutK_zero]
  | k + 1, s => by
    rcases com_cases s with ⟨h1, _⟩ | ⟨a, r, rfl, h1, _⟩
    · rw [cutK_no h1]; simp
    · have := cutK_le k r
      rw [cutK_com h1]; simp; omega
/-- More cuts than there are bytes cut as often. -/
theorem cutK_more : ∀ (k j : Nat) (s : List UInt8), s.length ≤ k → s.length ≤ j → cutK k s = cutK j s
  | k, j, s, hk, hj => by
    rcases com_cases s with ⟨h1, _⟩ | ⟨a, r, rfl, h1, _⟩
    · rw [cutK_no h1, cutK_no h1]
    · simp only [List.length_append, List.length_cons] at hk hj
      obtain ⟨k', rfl⟩ : ∃ k', k = k' + 1 := ⟨k - 1, by omega⟩
      obtain ⟨j', rfl⟩ : ∃ j', j = j' + 1 := ⟨j - 1, by omega⟩
      rw [cutK_com h1, cutK_com h1, cutK_more k' j' r (by omega) (by omega)]
termination_by k _ _ => k
/-! Events. -/
theorem evP_again (b : List UInt8) {f p : List UInt8} {x : Pc} (h : evP f p = some x) : evP f (subP b x).2.2 = some (subP b x) ∧ x.2.2 = p ∧ ((subP b x).2.2 = p ∨ (subP b x).2.2 = b) := by
  unfold evP at h ⊢
  split at h
  · rename_i hf
    split at h
    · rename_i hl
      injection h with h; subst h
      rw [if_pos hf]
      exact ⟨by rw [show (subP b (mk p)) = mk p from rfl, show (mk p).2.2 = p from rfl, if_pos hl], rfl, .inl rfl⟩
    · cases h
  · rename_i hf
    injection h with h; subst h
    rw [if_neg hf]
    exact ⟨rfl, rfl, .inr rfl⟩
theorem whole_cons2 (p : Pc) (l : List Pc) : wholeL (p :: l) = p.2.2 ++ wholeL l := by simp [wholeL]
theorem evs_head {fs ps : List (List UInt8)} {r : List Pc} (h : evsL fs ps = some r) (hf : fs ≠ []) (hp : ps ≠ []) : ∃ x r2, r = mk [44] :: x :: r2 := by
  cases fs with
  | nil => exact absurd rfl hf
  | cons f fs =>
    cases ps with
    | nil => exact absurd rfl hp
    | cons p ps =>
      unfold evsL at h
      split at h
      · cases h
      · split at h
        · cases h
        · injection h with h; exact ⟨_, _, h.symm⟩
theorem evs_again (b : List UInt8) (hb : 44 ∉ b) : ∀ (fs : List (List UInt8)) (v : List UInt8) (r : List Pc), fs ≠ [] → (cutK (fs.length - 1) v).length = fs.length → evsL fs (cutK (fs.length - 1) v) = some r →
    wholeL (r.drop 1) = v ∧ (cutK (fs.length - 1) (wholeL ((r.map (subP b)).drop 1))).length = fs.length ∧ evsL fs (cutK (fs.length - 1) (wholeL ((r.map (subP b)).drop 1))) = some (r.map (subP b)) ∧ r.length = 2 * fs.length
  | [], v, r, h, _, _ => absurd rfl h
  | [f], v, r, _, hl, h => by
    simp only [List.length_singleton, Nat.sub_self, cutK_zero, evsL] at h ⊢
    cases hx : evP f v with
    | none => rw [hx] at h; cases h
    | some x =>
      rw [hx] at h
      injection h with h; subst h
      obtain ⟨h1, h2, _⟩ := evP_again b hx
      have e : wholeL ((List.map (subP b) [mk [44], x]).drop 1) = (subP b x).2.2 := by simp [wholeL]
      refine ⟨by simp [wholeL, h2], by simp, ?_, by simp⟩
      rw [e, h1]; rfl
  | f :: f2 :: fs, v, r, _, hl, h => by
    have ek : (f :: f2 :: fs).length - 1 = ((f2 :: fs).length - 1) + 1 := by simp
    rw [ek] at hl h ⊢
    rcases com_cases v with ⟨h1, _⟩ | ⟨a, w, rfl, h1, _⟩
    · rw [cutK_no h1] at hl; simp at hl
    · rw [cutK_com h1] at hl h
      unfold evsL at h
      cases hx : evP f a with
      | none => rw [hx] at h; cases h
      | some x =>
        rw [hx] at h
        simp only at h
        cases hr : evsL (f2 :: fs) (cutK ((f2 :: fs).length - 1) w) with
        | none => rw [hr] at h; cases h
        | some r2 =>
          rw [hr] at h
          injection h with h; subst h
          obtain ⟨g1, g2, g3⟩ := evP_again b hx
          obtain ⟨i1, i2, i3, i4⟩ := evs_again b hb (f2 :: fs) w r2 (by simp) (by simpa using hl) hr
          obtain ⟨y, r3, rfl⟩ := evs_head hr (by simp) (cutK_ne _ _)
          have hc : 44 ∉ (subP b x).2.2 := by
            rcases g3 with g3 | g3 <;> rw [g3]
            · exact h1
            · exact hb
          have e1 : wholeL (((mk [44] :: x :: mk [44] :: y :: r3).map (subP b)).drop 1) = (subP b x).2.2 ++ 44 :: wholeL (((mk [44] :: y :: r3).map (subP b)).drop 1) := by
            simp only [List.map_cons, List.drop_succ_cons, List.drop_zero, whole_cons2]
            rfl
          rw [e1, cutK_com hc]
          refine ⟨?_, by simpa using i2, ?_, by simp at i4 ⊢; omega⟩
          · simp only [List.drop_succ_cons, List.drop_zero, whole_cons2] at i1 ⊢
            rw [g2, ← i1]; rfl
          · rw [evsL, g1]
            simp only
            rw [i3]
            rfl
theorem evL_some {head v : List UInt8} {fs : List (List UInt8)} {ps : List Pc} (h : evL head v fs = some ps) : fs ≠ [] ∧ (cutK (fs.length - 1) v).length = fs.length ∧ ∃ r, evsL fs (cutK (fs.length - 1) v) = some r ∧ ps = mk head :: r.drop 1 := by
  unfold evL at h
  split at h
  · cases h
  · rename_i hf
    split at h
    · cases h
    · rename_i hl
      have h2 := (cutK_le (fs.length - 1) v).1
      have hpos : 0 < fs.length := by cases fs with | nil => exact absurd rfl hf | cons _ _ => simp
      split at h
      · cases h
      · rename_i r hr
        injection h with h
        exact ⟨hf, by omega, r, hr, h.symm⟩
theorem evL_again (b : List UInt8) (hb : 44 ∉ b) {head v : List UInt8} {fs : List (List UInt8)} {ps : List Pc} (h : evL head v fs = some ps) :
    wholeL ps = head ++ v ∧ ps.length ≤ 2 * v.length + 2 ∧ ∃ v', wholeL (ps.map (subP b)) = head ++ v' ∧ evL head v' fs = some (ps.map (subP b)) := by
  obtain ⟨hf, hl, r, hr, rfl⟩ := evL_some h
  obtain ⟨h1, h2, h3, h4⟩ := evs_again b hb fs v r hf hl hr
  have h5 := (cutK_le (fs.length - 1) v).2
  refine ⟨by rw [whole_cons2, h1]; rfl, by simp; omega, wholeL ((r.map (subP b)).drop 1), ?_, ?_⟩
  · rw [List.map_cons, whole_cons2, List.map_drop]; rfl
  · unfold evL
    rw [if_neg hf, if_neg (by omega), h3]
    simp only [List.map_cons, List.map_drop]
    rfl
theorem nmC_cons (p : Pc) (l : List Pc) : nmC (p :: l) = (if p.1 then 0 else 1) + nmC l := by
  unfold nmC
  cases h : p.1 <;> simp [h]; omega
theorem evs_nm : ∀ (fs ps : List (List UInt8)) (r : List Pc), evsL fs ps = some r → nmC r ≤ ps.length
  | [], ps, r, h => by simp [evsL] at h; subst h; simp [nmC]
  | f :: fs, [], r, h => by simp [evsL] at h; subst h; simp [nmC]
  | f :: fs, p :: ps, r, h => by
    unfold evsL at h
    cases hx : evP f p with
    | none => rw [hx] at h; cases h
    | some x =>
      rw [hx] at h
      simp only at h
      cases hr : evsL fs ps with
      | none => rw [hr] at h; cases h
      | some r2 =>
        rw [hr] at h
        injection h with h; subst h
        have := evs_nm fs ps r2 hr
        rw [nmC_cons, nmC_cons, List.length_cons]
        have e : (mk [44]).1 = true := rfl
        rw [if_pos e]
        split <;> omega
theorem nmC_drop (l : List Pc) : nmC (l.drop 1) ≤ nmC l := by
  cases l with
  | nil => simp
  | cons p l => rw [List.drop_one, List.tail_cons, nmC_cons]; omega
theorem evL_nm {head v : List UInt8} {fs : List (List UInt8)} {ps : List Pc} (h : evL head v fs = some ps) : nmC ps ≤ v.length + 1 := by
  obtain ⟨hf, hl, r, hr, rfl⟩ := evL_some h
  have h1 := evs_nm _ _ _ hr
  have h2 := (cutK_le (fs.length - 1) v).2
  have h3 := nmC_drop r
  rw [nmC_cons, if_pos (show (mk head).1 = true from rfl)]
  omega
/-! Keys. -/
theorem keyL_some {s : List UInt8} {n : Nat} (h : keyL s = some n) : ∃ k v, s = k ++ 58 :: 32 :: v ∧ (∀ c ∈ k, keyB c = true) ∧ k ≠ [] ∧ k[0]? ≠ some 32 ∧ n = k.length := by
  unfold keyL at h
  split at h
  · rename_i hc
    obtain ⟨h0, h1, h2, h3⟩ := hc
    injection h with h
    have hlt : keyN s < s.length := by
      rcases Nat.lt_or_ge (keyN s) s.length with h4 | h4
      · exact h4
      · rw [List.getElem?_eq_none h4] at h2; cases h2
    have hlt2 : keyN s + 1 < s.length := by
      rcases Nat.lt_or_ge (keyN s + 1) s.length with h4 | h4
      · exact h4
      · rw [List.getElem?_eq_none h4] at h3; cases h3
    have e : s = s.takeWhile keyB ++ s.drop (keyN s) := tw_pre keyB s
    have e2 : s.drop (keyN s) = 58 :: 32 :: s.drop (keyN s + 1 + 1) := by
      rw [List.drop_eq_getElem_cons hlt, List.drop_eq_getElem_cons hlt2]
      rw [List.getElem?_eq_getElem hlt] at h2
      rw [List.getElem?_eq_getElem hlt2] at h3
      injection h2 with h2
      injection h3 with h3
      rw [h2, h3]
    refine ⟨s.takeWhile keyB, s.drop (keyN s + 1 + 1), by rw [← e2]; exact e, fun c hc => tw_mem _ _ _ hc, fun e3 => ?_, fun e3 => h0 ?_, h.symm⟩
    · unfold keyN at h1; rw [e3] at h1; simp at h1
    · have hl : 0 < (s.takeWhile keyB).length := h1
      rw [e, List.getElem?_append_left hl]
      exact e3
  · cases h
theorem keyL_of {k v : List UInt8} (hk : ∀ c ∈ k, keyB c = true) (h0 : k ≠ []) (h1 : k[0]? ≠ some 32) : keyL (k ++ 58 :: 32 :: v) = some k.length := by
  have hn : keyN (k ++ 58 :: 32 :: v) = k.length := by
    unfold keyN
    rw [tw_app keyB k (58 :: 32 :: v) hk (fun c hc => by simp at hc; subst hc; decide)]
  have hpos : 0 < k.length := by cases k with | nil => exact absurd rfl h0 | cons _ _ => simp
  unfold keyL
  rw [hn, if_pos]
  refine ⟨by rw [List.getElem?_append_left hpos]; exact h1, hpos, by rw [List.getElem?_append_right (Nat.le_refl _)]; simp, ?_⟩
  rw [List.getElem?_append_right (by omega), show k.length + 1 - k.length = 1 by omega]
  rfl
theorem key_take (k v : List UInt8) : (k ++ 58 :: 32 :: v).take (k.length + 2) = k ++ [58, 32] := by
  rw [show k ++ 58 :: 32 :: v = (k ++ [58, 32]) ++ v by simp, show k.length + 2 = (k ++ [58, 32]).length by simp, List.take_left]
theorem key_drop (k v : List UInt8) : (k ++ 58 :: 32 :: v).drop (k.length + 2) = v := by
  rw [show k ++ 58 :: 32 :: v = (k ++ [58, 32]) ++ v by simp, show k.length + 2 = (k ++ [58, 32]).length by simp, List.drop_left]
theorem key_first {k v : List UInt8} (hk : ∀ c ∈ k, keyB c = true) (h0 : k ≠ []) : ¬ ((k ++ 58 :: 32 :: v)[0]? = some 59 ∨ (k ++ 58 :: 32 :: v)[0]? = some 33) ∧ secB (k ++ 58 :: 32 :: v) = false := by
  cases k with
  | nil => exact absurd rfl h0
  | cons c k =>
    have hc := hk c (by simp)
    have e : (c :: k ++ 58 :: 32 :: v)[0]? = some c := rfl
    rw [e]
    refine ⟨?_, ?_⟩
    · rintro (h | h) <;> (injection h with h; subst h; revert hc; decide)
    · unfold secB
      rw [e]
      by_cases h91 : c = 91
      · subst h91; exact absurd hc (by decide)
      · have : (some c == some (91 : UInt8)) = false := by simpa using h91
        rw [this]; simp
/-- A line with a key. -/
theorem ssa_key (st : Ss) {k : List UInt8} (v : List UInt8) (hk : ∀ c ∈ k, keyB c = true) (h0 : k ≠ []) (h1 : k[0]? ≠ some 32) :
    ssaL st (k ++ 58 :: 32 :: v) = if k = kFormat then some ((st.1, fmtL v), [mk (k ++ 58 :: 32 :: v)]) else if st.1 = true then (evL (k ++ [58, 32]) v st.2).map fun ps => (st, ps) else some (st, [mk (k ++ [58, 32]), (false, k, v)]) := by
  obtain ⟨a1, a2⟩ := key_first (v := v) hk h0
  unfold ssaL
  rw [if_neg (by simp), if_neg a1, a2, if_neg (by simp), keyL_of hk h0 h1]
  simp only
  rw [key_take, key_drop, List.take_left]
/-- What a line's pieces are. -/
theorem ssa_shape (st : Ss) (s : List UInt8) (st' : Ss) (ps : List Pc) (h : ssaL st s = some (st', ps)) :
    (s = [] ∧ ps = [] ∧ st' = st) ∨ ps = [mk s] ∨ (∃ c v, (c = 59 ∨ c = 33) ∧ s = c :: v ∧ ps = [mk [c], (false, nRemark, v)] ∧ st' = st) ∨
    (∃ k v, s = k ++ 58 :: 32 :: v ∧ (∀ c ∈ k, keyB c = true) ∧ k ≠ [] ∧ k[0]? ≠ some 32 ∧ k ≠ kFormat ∧ st' = st ∧ ((st.1 = true ∧ evL (k ++ [58, 32]) v st.2 = some ps) ∨ (st.1 = false ∧ ps = [mk (k ++ [58, 32]), (false, k, v)]))) := by
  by_cases hs : s = []
  · subst hs
    unfold ssaL at h
    rw [if_pos rfl] at h
    injection h with h; injection h with h1 h2
    exact .inl ⟨rfl, h2.symm, h1.symm⟩
  by_cases hr : s[0]? = some 59 ∨ s[0]? = some 33
  · unfold ssaL at h
    rw [if_neg hs, if_pos hr] at h
    injection h with h; injection h with h1 h2
    cases s with
    | nil => exact absurd rfl hs
    | cons c v =>
      refine .inr (.inr (.inl ⟨c, v, ?_, rfl, h2.symm, h1.symm⟩))
      simpa using hr
  by_cases hb : secB s = true
  · unfold ssaL at h
    rw [if_neg hs, if_neg hr, if_pos hb] at h
    injection h with h; injection h with h1 h2
    exact .inr (.inl h2.symm)
  cases hk : keyL s with
  | none =>
    unfold ssaL at h
    rw [if_neg hs, if_neg hr, if_neg hb, hk] at h
    cases h
  | some n =>
    obtain ⟨k, v, rfl, k1, k2, k3, rfl⟩ := keyL_some hk
    rw [ssa_key st v k1 k2 k3] at h
    split at h
    · injection h with h; injection h with h1 h2
      exact .inr (.inl h2.symm)
    · rename_i hf
      split at h
      · rename_i he
        cases hev : evL (k ++ [58, 32]) v st.2 with
        | none => rw [hev] at h; cases h
        | some qs =>
          rw [hev] at h
          injection h with h; injection h with h1 h2
          subst h2
          exact .inr (.inr (.inr ⟨k, v, rfl, k1, k2, k3, hf, h1.symm, .inl ⟨he, hev⟩⟩))
      · rename_i he
        injection h with h; injection h with h1 h2
        exact .inr (.inr (.inr ⟨k, v, rfl, k1, k2, k3, hf, h1.symm, .inr ⟨by simpa using he, h2.symm⟩⟩))
theorem ssaL_whole (st : Ss) (s : List UInt8) (st' : Ss) (ps : List Pc) (h : ssaL st s = some (st', ps)) : wholeL ps = s := by
  rcases ssa_shape st s st' ps h with ⟨rfl, rfl, _⟩ | rfl | ⟨c, v, _, rfl, rfl, _⟩ | ⟨k, v, rfl, _, _, _, _, _, ⟨_, he⟩ | ⟨_, rfl⟩⟩
  · rfl
  · exact wholeL_mk s
  · simp [wholeL, mk]
  · rw [(evL_again [] (by simp) he).1]; simp
  · simp [wholeL, mk]
theorem ssaL_len (st : Ss) (s : List UInt8) (st' : Ss) (ps : List Pc) (h : ssaL st s = some (st', ps)) : ps.length ≤ 4 * s.length + 4 := by
  rcases ssa_shape st s st' ps h with ⟨rfl, rfl, _⟩ | rfl | ⟨c, v, _, rfl, rfl, _⟩ | ⟨k, v, rfl, _, _, _, _, _, ⟨_, he⟩ | ⟨_, rfl⟩⟩
  · simp
  · simp
  · simp
  · have := (evL_again [] (by simp) he).2.1
    simp only [List.length_append, List.length_cons]; omega
  · simp only [List.length_append, List.length_cons, List.length_nil]; omega
theorem ssaL_nm (st : Ss) (s : List UInt8) (st' : Ss) (ps : List Pc) (h : ssaL st s = some (st', ps)) : nmC ps ≤ s.length + 1 := by
  rcases ssa_shape st s st' ps h with ⟨rfl, rfl, _⟩ | rfl | ⟨c, v, _, rfl, rfl, _⟩ | ⟨k, v, rfl, _, _, _, _, _, ⟨_, he⟩ | ⟨_, rfl⟩⟩
  · simp [nmC]
  · simp [nmC, mk]
  · simp [nmC, mk]
  · have := evL_nm he
    simp only [List.length_append, List.length_cons]; omega
  · simp [nmC, mk]
theorem ssaL_nil (st : Ss) : ssaL st [] = some (st, []) := rfl
theorem ssa_again (b : List UInt8) (hb : ∀ c ∈ b, smB c = true) (st : Ss) (s : List UInt8) (st' : Ss) (ps : List Pc) (h : ssaL st s = some (st', ps)) : ssaL st (wholeL (ps.map (subP b))) = some (st', ps.map (subP b)) := by
  have hb44 : 44 ∉ b := fun e => by have := hb 44 e; exact absurd this (by decide)
  rcases ssa_shape st s st' ps h with ⟨rfl, rfl, _⟩ | rfl | ⟨c, v, hc, rfl, rfl, rfl⟩ | ⟨k, v, rfl, k1, k2, k3, k4, rfl, ⟨he0, he⟩ | ⟨he0, rfl⟩⟩
  · exact h
  · rw [show [mk s].map (subP b) = [mk s] from rfl, wholeL_mk]; exact h
  · have e : wholeL ([mk [c], ((false, nRemark, v) : Pc)].map (subP b)) = c :: b := by simp [wholeL, mk, subP]
    rw [e]
    unfold ssaL
    rw [if_neg (by simp), if_pos (by simpa using hc)]
    rfl
  · obtain ⟨_, _, v', e1, e2⟩ := evL_again b hb44 he
    rw [e1, show k ++ [58, 32] ++ v' = k ++ 58 :: 32 :: v' by simp, ssa_key st' v' k1 k2 k3, if_neg k4, if_pos he0, e2]
    rfl
  · have e : wholeL ([mk (k ++ [58, 32]), ((false, k, v) : Pc)].map (subP b)) = k ++ 58 :: 32 :: b := by simp [wholeL, mk, subP]
    rw [e, ssa_key st' b k1 k2 k3, if_neg k4, he0, if_neg (by simp)]
    rfl
theorem ssa_changes (b : List UInt8) (hb : ∀ c ∈ b, smB c = true) (st : Ss) (t : List UInt8) (ps : List Pc) (h : walkS ssaL st (linesL t) = .inl ps) : walkS ssaL st (linesL (wholeL (ps.map (subP b)))) = .inl (ps.map (subP b)) :=
  changes_plainS ssaL ssaL_nil ssaL_whole b hb (fun st s st' ps _ h => ssa_again b hb st s st' ps h) st t ps h
theorem ssa_changes_len (b : List UInt8) (hb : b.length ≤ 50) (st : Ss) (t : List UInt8) (ht : t.length ≤ 500) (ps : List Pc) (h : walkS ssaL st (linesL t) = .inl ps) : (wholeL (ps.map (subP b))).length ≤ 50500 :=
  changes_lenS ssaL ssaL_whole ssaL_nm b hb st t ht ps h
end Go.Proofs.YtlcgfgbdehdndaaDoor
