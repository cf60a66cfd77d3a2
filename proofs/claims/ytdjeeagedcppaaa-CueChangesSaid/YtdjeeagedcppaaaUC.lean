/- What cue.Pieces tells of a line (cueL), and that it tells the same of a line whose text is replaced by small letters: plain lists. -/
import Derived.Test.YtdjeeagedcppaaaUX
set_option maxRecDepth 100000
set_option maxHeartbeats 1000000
namespace Go.Proofs.Ytdjeeagedcppaaa
open Go Go.RowKit

def blB (c : UInt8) : Bool := c == 32 || c == 9
def upB (c : UInt8) : Bool := decide (65 ≤ c.toNat) && decide (c.toNat ≤ 90)
def wB (l : List UInt8) : Nat := (l.takeWhile blB).length
def wE (l : List UInt8) : Nat := wB l + ((l.drop (wB l)).takeWhile upB).length
def kRem : List UInt8 := [82, 69, 77]
def kTitle : List UInt8 := [84, 73, 84, 76, 69]
def kPerf : List UInt8 := [80, 69, 82, 70, 79, 82, 77, 69, 82]
def kSong : List UInt8 := [83, 79, 78, 71, 87, 82, 73, 84, 69, 82]
def kFile : List UInt8 := [70, 73, 76, 69]
def kTrack : List UInt8 := [84, 82, 65, 67, 75]
def kIndex : List UInt8 := [73, 78, 68, 69, 88]
def kPre : List UInt8 := [80, 82, 69, 71, 65, 80]
def kPost : List UInt8 := [80, 79, 83, 84, 71, 65, 80]
def kCat : List UInt8 := [67, 65, 84, 65, 76, 79, 71]
def kIsrc : List UInt8 := [73, 83, 82, 67]
def kFlags : List UInt8 := [70, 76, 65, 71, 83]
def nRemark : List UInt8 := [114, 101, 109, 97, 114, 107]
def nTitle : List UInt8 := [116, 105, 116, 108, 101]
def nPerf : List UInt8 := [112, 101, 114, 102, 111, 114, 109, 101, 114]
def nSong : List UInt8 := [115, 111, 110, 103, 119, 114, 105, 116, 101, 114]
def nFile : List UInt8 := [102, 105, 108, 101]
def momF : List UInt8 := [48, 48, 58, 48, 48, 58, 48, 48]
def numF : List UInt8 := [48, 48]
/-- A value's text, and how many bytes its sign has. -/
def valL (s : List UInt8) : Option (List UInt8 × Nat) :=
  if 34 ∈ s then (if 2 ≤ s.length ∧ s[0]? = some 34 ∧ s[s.length - 1]? = some 34 ∧ 34 ∉ (s.take (s.length - 1)).drop 1 then some ((s.take (s.length - 1)).drop 1, 1) else none)
  else if s = [] then none else some (s, 0)
def vdL (s nm : List UInt8) (a b : Nat) : Option (List Pc) :=
  match valL ((s.take b).drop a) with
  | none => none
  | some (t, n) => some (mk (s.take a ++ (s.take (a + n)).drop a) :: (false, nm, t) :: endP (s.drop (b - n)))
def lastB (s : List UInt8) : Int := Lib.lastIndex s [32]
def numB (s : List UInt8) : Bool := decide (2 < s.length) && likeB (s.take 2) numF && s[2]? == some 32
def listB (s : List UInt8) : Bool := !s.isEmpty && s[0]? != some 32 && s.all fun c => c == 32 || capB c
def wholeP (s : List UInt8) (ok : Bool) : Option (List Pc) := if ok = true then some [mk s] else none
def fileL (s : List UInt8) (a : Nat) : Option (List Pc) :=
  if 0 ≤ lastB (s.drop a) ∧ capsB ((s.drop a).drop ((lastB (s.drop a)).toNat + 1)) = true then vdL s nFile a (a + (lastB (s.drop a)).toNat) else none
def caseL (nm s : List UInt8) (a : Nat) : Option (List Pc) :=
  if nm = kRem then some [mk (s.take a), (false, nRemark, s.drop a)]
  else if nm = kTitle then vdL s nTitle a s.length
  else if nm = kPerf then vdL s nPerf a s.length
  else if nm = kSong then vdL s nSong a s.length
  else if nm = kFile then fileL s a
  else if nm = kTrack then wholeP s (numB (s.drop a) && capsB ((s.drop a).drop 3))
  else if nm = kIndex then wholeP s (numB (s.drop a) && likeB ((s.drop a).drop 3) momF)
  else if nm = kPre then wholeP s (likeB (s.drop a) momF)
  else if nm = kPost then wholeP s (likeB (s.drop a) momF)
  else if nm = kCat then wholeP s (listB (s.drop a))
  else if nm = kIsrc then wholeP s (listB (s.drop a))
  else if nm = kFlags then wholeP s (listB (s.drop a))
  else none
/-- A line's pieces; none: it has no form. -/
def cueL (s : List UInt8) : Option (List Pc) :=
  if wB s = s.length then (if s = [] then some [] else some [mk s])
  else if wE s = s.length then wholeP s ((s.take (wE s)).drop (wB s) == kRem)
  else if s[wE s]? = some 32 then caseL ((s.take (wE s)).drop (wB s)) s (wE s + 1)
  else none
theorem wB_app (bl y : List UInt8) (hb : ∀ c ∈ bl, blB c = true) (hy : ∀ c, y[0]? = some c → blB c = false) : wB (bl ++ y) = bl.length := by
  unfold wB; rw [tw_app blB bl y hb hy]
theorem word_of (bl up x : List UInt8) (hb : ∀ c ∈ bl, blB c = true) (hu : ∀ c ∈ up, upB c = true) (h0 : up ≠ []) :
    wB (bl ++ (up ++ 32 :: x)) = bl.length ∧ wE (bl ++ (up ++ 32 :: x)) = bl.length + up.length := by
  have h1 : wB (bl ++ (up ++ 32 :: x)) = bl.length := wB_app bl _ hb (fun c hc => by
    cases up with
    | nil => exact absurd rfl h0
    | cons d l =>
      simp at hc; subst hc
      have := hu d (by simp)
      unfold upB at this; unfold blB
      simp only [Bool.and_eq_true, decide_eq_true_eq] at this
      simp only [Bool.or_eq_false_iff, beq_eq_false_iff_ne]
      constructor <;> (intro e; subst e; simp at this))
  refine ⟨h1, ?_⟩
  unfold wE
  rw [h1, List.drop_left, tw_app upB up (32 :: x) hu (fun c hc => by simp at hc; subst hc; decide)]
theorem word_dec (s : List UInt8) (h : s[wE s]? = some 32) : ∃ bl up x : List UInt8, s = bl ++ (up ++ 32 :: x) ∧ (∀ c ∈ bl, blB c = true) ∧ (∀ c ∈ up, upB c = true) ∧ up ≠ [] := by
  have e1 : s = s.takeWhile blB ++ s.drop (wB s) := tw_pre blB s
  have e2 : s.drop (wB s) = (s.drop (wB s)).takeWhile upB ++ (s.drop (wB s)).drop ((s.drop (wB s)).takeWhile upB).length := tw_pre upB (s.drop (wB s))
  have e3 : (s.drop (wB s)).drop ((s.drop (wB s)).takeWhile upB).length = s.drop (wE s) := by rw [List.drop_drop]; rfl
  have hlt : wE s < s.length := by
    rcases Nat.lt_or_ge (wE s) s.length with h1 | h1
    · exact h1
    · rw [List.getElem?_eq_none h1] at h; cases h
  have e4 : s.drop (wE s) = 32 :: s.drop (wE s + 1) := by
    rw [List.drop_eq_getElem_cons hlt]
    congr 1
    rw [List.getElem?_eq_getElem hlt] at h
    injection h
  refine ⟨s.takeWhile blB, (s.drop (wB s)).takeWhile upB, s.drop (wE s + 1), ?_, fun c hc => tw_mem _ _ _ hc, fun c hc => tw_mem _ _ _ hc, fun e => ?_⟩
  · rw [← e4, ← e3, ← e2, ← e1]
  · have hw : wE s = wB s := by unfold wE; rw [e]; rfl
    rw [hw] at h hlt
    have := tw_out blB s hlt
    have h2 : s[(s.takeWhile blB).length]? = some 32 := h
    have hlt2 : (s.takeWhile blB).length < s.length := hlt
    rw [List.getElem?_eq_getElem hlt2] at h2
    injection h2 with h2
    have h3 : blB s[(s.takeWhile blB).length] = false := this
    rw [h2] at h3
    exact absurd h3 (by decide)
theorem cue_of (bl up x : List UInt8) (hb : ∀ c ∈ bl, blB c = true) (hu : ∀ c ∈ up, upB c = true) (h0 : up ≠ []) :
    cueL (bl ++ (up ++ 32 :: x)) = caseL up ((bl ++ (up ++ [32])) ++ x) (bl ++ (up ++ [32])).length := by
  obtain ⟨h1, h2⟩ := word_of bl up x hb hu h0
  have hl : (bl ++ (up ++ 32 :: x)).length = bl.length + (up.length + (x.length + 1)) := by simp
  have hn : ((bl ++ (up ++ 32 :: x)).take (bl.length + up.length)).drop bl.length = up := by
    rw [← List.append_assoc, ← List.length_append, List.take_left, List.drop_left]
  have hg : (bl ++ (up ++ 32 :: x))[bl.length + up.length]? = some 32 := by
    rw [← List.append_assoc, ← List.length_append, List.getElem?_append_right (Nat.le_refl _)]; simp
  unfold cueL
  rw [h1, h2, if_neg (by omega), if_neg (by omega), if_pos hg, hn]
  congr 1
  · simp
  · simp; omega
theorem val_shape {y t : List UInt8} {n : Nat} (h : valL y = some (t, n)) : ∃ q : List UInt8, y = q ++ (t ++ q) ∧ q.length = n ∧ (q = [] ∨ q = [34]) := by
  unfold valL at h
  split at h
  · split at h
    · rename_i hc
      obtain ⟨h2, h0, hl, hm⟩ := hc
      injection h with h
      injection h with h3 h4
      refine ⟨[34], ?_, h4, .inr rfl⟩
      rw [← h3]
      have e1 : y.drop (y.length - 1) = [34] := by
        rw [List.drop_eq_getElem_cons (by omega)]
        rw [List.getElem?_eq_getElem (by omega)] at hl
        injection hl with hl
        rw [hl, List.drop_of_length_le (by omega)]
      have e2 : y.take 1 = [34] := by
        cases y with
        | nil => simp at h2
        | cons c y => simp at h0; simp [h0]
      have e3 : y = y.take 1 ++ ((y.take (y.length - 1)).drop 1 ++ y.drop (y.length - 1)) := by
        have e4 : y.take (y.length - 1) = y.take 1 ++ (y.take (y.length - 1)).drop 1 := by
          conv => lhs; rw [← List.take_append_drop 1 (y.take (y.length - 1))]
          rw [List.take_take, Nat.min_eq_left (by omega)]
        rw [← List.append_assoc, ← e4, List.take_append_drop]
      conv => lhs; rw [e3]
      rw [e1, e2]
    · cases h
  · split at h
    · cases h
    · injection h with h
      injection h with h3 h4
      exact ⟨[], by simp [h3], by simpa using h4, .inl rfl⟩
theorem val_again (q b : List UInt8) (hq : q = [] ∨ q = [34]) (hb0 : b ≠ []) (hb : 34 ∉ b) : valL (q ++ (b ++ q)) = some (b, q.length) := by
  rcases hq with rfl | rfl
  · simp [valL, hb, hb0]
  · unfold valL
    rw [if_pos (by simp)]
    have hl : ([34] ++ (b ++ [34])).length = b.length + 2 := by simp
    have e : (([34] ++ (b ++ [34])).take (b.length + 2 - 1)).drop 1 = b := by
      rw [show b.length + 2 - 1 = b.length + 1 by omega, List.singleton_append, List.take_succ_cons, List.drop_succ_cons, List.drop_zero, List.take_left]
    rw [hl, e, if_pos ⟨by omega, by simp, by rw [show b.length + 2 - 1 = b.length + 1 by omega, List.singleton_append, List.getElem?_cons_succ, List.getElem?_append_right (Nat.le_refl _)]; simp, hb⟩]
    rfl
theorem vd_some {P y z nm t : List UInt8} {n : Nat} (h : valL y = some (t, n)) : ∃ q : List UInt8, y = q ++ (t ++ q) ∧ (q = [] ∨ q = [34]) ∧ vdL (P ++ (y ++ z)) nm P.length (P.length + y.length) = some (mk (P ++ q) :: (false, nm, t) :: endP (q ++ z)) := by
  obtain ⟨q, hy, hn, hq⟩ := val_shape h
  refine ⟨q, hy, hq, ?_⟩
  unfold vdL
  have e1 : ((P ++ (y ++ z)).take (P.length + y.length)).drop P.length = y := by
    rw [← List.append_assoc, ← List.length_append, List.take_left, List.drop_left]
  have e2 : (P ++ (y ++ z)).take P.length = P := List.take_left
  have e3 : ((P ++ (y ++ z)).take (P.length + n)).drop P.length = q := by
    rw [hy, List.append_assoc, ← List.append_assoc P, ← hn, ← List.length_append, List.take_left, List.drop_left]
  have e4 : (P ++ (y ++ z)).drop (P.length + y.length - n) = q ++ z := by
    have hl : P.length + y.length - n = (P ++ (q ++ t)).length := by rw [hy, ← hn]; simp; omega
    rw [hl, hy]
    have : P ++ (q ++ (t ++ q) ++ z) = (P ++ (q ++ t)) ++ (q ++ z) := by simp
    rw [this, List.drop_left]
  rw [e1, h]
  simp only
  rw [e2, e3, e4]
theorem vd_none {P y z nm : List UInt8} (h : valL y = none) : vdL (P ++ (y ++ z)) nm P.length (P.length + y.length) = none := by
  unfold vdL
  have e1 : ((P ++ (y ++ z)).take (P.length + y.length)).drop P.length = y := by
    rw [← List.append_assoc, ← List.length_append, List.take_left, List.drop_left]
  rw [e1, h]
/-- What a line with a text is. -/
def TextP (P : List UInt8) (x nm t q z : List UInt8) (ps : List Pc) : Prop := x = q ++ (t ++ (q ++ z)) ∧ (q = [] ∨ q = [34]) ∧ ps = mk (P ++ q) :: (false, nm, t) :: endP (q ++ z)
theorem last_spec (r : List UInt8) (h : 0 ≤ lastB r) : (lastB r).toNat < r.length ∧ r = r.take (lastB r).toNat ++ 32 :: r.drop ((lastB r).toNat + 1) := by
  unfold lastB at *
  unfold Lib.lastIndex at *
  split at h
  · rename_i h1
    rcases Lib.lastOcc_spec r [32] (r.length - [(32 : UInt8)].length + 1) with ⟨e, _⟩ | ⟨i, hi, e, hc, _⟩
    · rw [e] at h; omega
    · rw [if_pos h1, e]
      simp only [List.length_singleton] at hi h1
      have hlt : i < r.length := by omega
      refine ⟨by simpa using hlt, ?_⟩
      have hg : r[i] = 32 := by
        unfold Lib.occAt at hc
        rw [List.drop_eq_getElem_cons hlt] at hc
        simp [List.isPrefixOf] at hc
        first | exact hc | exact hc.symm
      conv => lhs; rw [← List.take_append_drop i r, List.drop_eq_getElem_cons hlt, hg]
      simp
  · omega
theorem occ1 (l : List UInt8) (j : Nat) : Lib.occAt l [32] j = true ↔ l[j]? = some 32 := by
  unfold Lib.occAt
  rcases Nat.lt_or_ge j l.length with h | h
  · rw [List.drop_eq_getElem_cons h, List.getElem?_eq_getElem h]
    simp only [List.isPrefixOf, Bool.and_true, beq_iff_eq, Option.some.injEq]
    exact eq_comm
  · rw [List.drop_of_length_le h, List.getElem?_eq_none h]; simp [List.isPrefixOf]
theorem last_of (a z : List UInt8) (hz : 32 ∉ z) : lastB (a ++ 32 :: z) = a.length := by
  have hat : (a ++ 32 :: z)[a.length]? = some 32 := by rw [List.getElem?_append_right (Nat.le_refl _)]; simp
  unfold lastB Lib.lastIndex
  have hl : (a ++ 32 :: z).length - [(32 : UInt8)].length + 1 = a.length + z.length + 1 := by simp
  rw [if_pos (by simp; omega), hl]
  rcases Lib.lastOcc_spec (a ++ 32 :: z) [32] (a.length + z.length + 1) with ⟨_, hn⟩ | ⟨i, hi, e, hc, hn⟩
  · have := hn a.length (by omega)
    rw [(occ1 _ _).2 hat] at this; cases this
  · rw [e]
    rcases Nat.lt_trichotomy i a.length with h | h | h
    · have := hn a.length h (by omega)
      rw [(occ1 _ _).2 hat] at this; cases this
    · rw [h]
    · have h2 := (occ1 _ _).1 hc
      rw [List.getElem?_append_right (by omega), show i - a.length = (i - a.length - 1) + 1 by omega, List.getElem?_cons_succ] at h2
      exact absurd (List.mem_of_getElem? h2) hz
theorem vd_full {P x nm : List UInt8} {ps : List Pc} (h : vdL (P ++ x) nm P.length (P ++ x).length = some ps) :
    ∃ t q, TextP P x nm t q [] ps ∧ ∀ b, b ≠ [] → 34 ∉ b → vdL (P ++ (q ++ (b ++ (q ++ [])))) nm P.length (P ++ (q ++ (b ++ (q ++ [])))).length = some (mk (P ++ q) :: (false, nm, b) :: endP (q ++ [])) := by
  have hx : P ++ x = P ++ (x ++ []) := by simp
  have hxl : List.length (P ++ (x ++ [])) = P.length + x.length := by simp
  rw [hx, hxl] at h
  cases hv : valL x with
  | none => rw [vd_none hv] at h; cases h
  | some r =>
    obtain ⟨t, n⟩ := r
    obtain ⟨q, hy, hq, he⟩ := vd_some (P := P) (z := []) (nm := nm) hv
    rw [he] at h
    injection h with h
    refine ⟨t, q, ⟨by rw [List.append_nil]; exact hy, hq, h.symm⟩, fun b hb0 hb => ?_⟩
    obtain ⟨q2, hy2, hq2, he2⟩ := vd_some (P := P) (z := []) (nm := nm) (val_again q b hq hb0 hb)
    have hqq : q2 = q := by
      have h1 := congrArg List.length hy2
      simp only [List.length_append] at h1
      rcases hq with rfl | rfl <;> rcases hq2 with rfl | rfl
      · rfl
      · simp only [List.length_nil, List.length_cons] at h1; omega
      · simp only [List.length_nil, List.length_cons] at h1; omega
      · rfl
    subst hqq
    have e : P ++ (q2 ++ (b ++ (q2 ++ []))) = P ++ ((q2 ++ (b ++ q2)) ++ []) := by simp
    have hel : List.length (P ++ ((q2 ++ (b ++ q2)) ++ [])) = P.length + (q2 ++ (b ++ q2)).length := by simp
    rw [e, hel]
    exact he2
theorem file_full {P x : List UInt8} {ps : List Pc} (h : fileL (P ++ x) P.length = some ps) :
    ∃ t q z, TextP P x nFile t q z ps ∧ ∀ b, b ≠ [] → 34 ∉ b → fileL (P ++ (q ++ (b ++ (q ++ z)))) P.length = some (mk (P ++ q) :: (false, nFile, b) :: endP (q ++ z)) := by
  unfold fileL at h
  rw [List.drop_left] at h
  split at h
  · rename_i hc
    obtain ⟨h0, hcap⟩ := hc
    obtain ⟨hlt, hx⟩ := last_spec x h0
    generalize hk : (lastB x).toNat = k at *
    have hy : (x.take k).length = k := by rw [List.length_take]; omega
    generalize x.take k = y at *
    generalize x.drop (k + 1) = c at *
    have hc32 : 32 ∉ c := fun hm => by
      unfold capsB at hcap
      simp only [Bool.and_eq_true, List.all_eq_true] at hcap
      exact absurd (hcap.2 32 hm) (by decide)
    rw [hx, ← hy] at h
    cases hv : valL y with
    | none => rw [vd_none hv] at h; cases h
    | some r =>
      obtain ⟨t, n⟩ := r
      obtain ⟨q, hy3, hq, he⟩ := vd_some (P := P) (z := 32 :: c) (nm := nFile) hv
      rw [he] at h
      injection h with h
      refine ⟨t, q, 32 :: c, ⟨by rw [hx, hy3]; simp, hq, h.symm⟩, fun b hb0 hb => ?_⟩
      obtain ⟨q2, hy2, hq2, he2⟩ := vd_some (P := P) (z := 32 :: c) (nm := nFile) (val_again q b hq hb0 hb)
      have hqq : q2 = q := by
        have h1 := congrArg List.length hy2
        simp only [List.length_append] at h1
        rcases hq with rfl | rfl <;> rcases hq2 with rfl | rfl
        · rfl
        · simp only [List.length_nil, List.length_cons] at h1; omega
        · simp only [List.length_nil, List.length_cons] at h1; omega
        · rfl
      subst hqq
      have e : q2 ++ (b ++ (q2 ++ 32 :: c)) = (q2 ++ (b ++ q2)) ++ 32 :: c := by simp
      have hlast := last_of (q2 ++ (b ++ q2)) c hc32
      unfold fileL
      rw [e, List.drop_left, hlast, Int.toNat_natCast]
      have hd : ((q2 ++ (b ++ q2)) ++ 32 :: c).drop ((q2 ++ (b ++ q2)).length + 1) = c := by
        rw [show (q2 ++ (b ++ q2)) ++ 32 :: c = (q2 ++ (b ++ q2) ++ [32]) ++ c by simp, show (q2 ++ (b ++ q2)).length + 1 = (q2 ++ (b ++ q2) ++ [32]).length by simp; omega, List.drop_left]
      rw [hd, if_pos ⟨by omega, hcap⟩]
      exact he2
  · cases h
theorem wholeP_some {s : List UInt8} {ok : Bool} {ps : List Pc} (h : wholeP s ok = some ps) : ps = [mk s] := by
  unfold wholeP at h
  split at h
  · injection h with h; exact h.symm
  · cases h
theorem case_some {up P x : List UInt8} {ps : List Pc} (h : caseL up (P ++ x) P.length = some ps) :
    ps = [mk (P ++ x)] ∨ ∃ nm t q z, TextP P x nm t q z ps ∧ ∀ b, b ≠ [] → 34 ∉ b → caseL up (P ++ (q ++ (b ++ (q ++ z)))) P.length = some (mk (P ++ q) :: (false, nm, b) :: endP (q ++ z)) := by
  unfold caseL at h ⊢
  by_cases h1 : up = kRem
  · simp only [if_pos h1] at h ⊢
    rw [List.take_left, List.drop_left] at h
    injection h with h
    refine .inr ⟨nRemark, x, [], [], ⟨by simp, .inl rfl, by rw [← h]; simp [endP]⟩, fun b _ _ => ?_⟩
    rw [List.take_left, List.drop_left]
    simp [endP]
  simp only [if_neg h1] at h ⊢
  by_cases h2 : up = kTitle
  · simp only [if_pos h2] at h ⊢
    obtain ⟨t, q, a, b⟩ := vd_full h
    exact .inr ⟨_, t, q, [], a, b⟩
  simp only [if_neg h2] at h ⊢
  by_cases h3 : up = kPerf
  · simp only [if_pos h3] at h ⊢
    obtain ⟨t, q, a, b⟩ := vd_full h
    exact .inr ⟨_, t, q, [], a, b⟩
  simp only [if_neg h3] at h ⊢
  by_cases h4 : up = kSong
  · simp only [if_pos h4] at h ⊢
    obtain ⟨t, q, a, b⟩ := vd_full h
    exact .inr ⟨_, t, q, [], a, b⟩
  simp only [if_neg h4] at h ⊢
  by_cases h5 : up = kFile
  · simp only [if_pos h5] at h ⊢
    obtain ⟨t, q, z, a, b⟩ := file_full h
    exact .inr ⟨_, t, q, z, a, b⟩
  simp only [if_neg h5] at h
  left
  repeat' split at h
  all_goals first | exact wholeP_some h | cases h
theorem endP_whole (e : List UInt8) : wholeL (endP e) = e := by
  unfold endP
  by_cases h : e = []
  · rw [if_pos h, h]; rfl
  · rw [if_neg h]; exact wholeL_mk _
theorem whole_cons (p : Pc) (l : List Pc) : wholeL (p :: l) = p.2.2 ++ wholeL l := by simp [wholeL]
theorem endP_marks (e : List UInt8) : ∀ p ∈ endP e, p.1 = true := fun p hp => by
  unfold endP at hp
  split at hp
  · simp at hp
  · simp at hp; subst hp; rfl
/-- What a line's pieces are: marks that are the line, or a text between two marks, whatever the text. -/
theorem cue_shape (s : List UInt8) (ps : List Pc) (h : cueL s = some ps) : (ps = [] ∧ s = []) ∨ ps = [mk s] ∨ ∃ P nm t q z, s = P ++ (q ++ (t ++ (q ++ z))) ∧ ps = mk (P ++ q) :: (false, nm, t) :: endP (q ++ z) ∧ ∀ b, b ≠ [] → 34 ∉ b → cueL (P ++ (q ++ (b ++ (q ++ z)))) = some (mk (P ++ q) :: (false, nm, b) :: endP (q ++ z)) := by
  by_cases h32 : s[wE s]? = some 32
  · obtain ⟨bl, up, x, rfl, hb, hu, h0⟩ := word_dec s h32
    have hc := fun x => cue_of bl up x hb hu h0
    rw [hc] at h
    have e : ∀ x, bl ++ (up ++ 32 :: x) = (bl ++ (up ++ [32])) ++ x := fun x => by simp
    have hc2 : ∀ x, cueL ((bl ++ (up ++ [32])) ++ x) = caseL up ((bl ++ (up ++ [32])) ++ x) (bl ++ (up ++ [32])).length := fun x => (congrArg cueL (e x).symm).trans (hc x)
    rw [e x]
    clear hc
    generalize bl ++ (up ++ [32]) = P at *
    rcases case_some h with h1 | ⟨nm, t, q, z, ⟨a1, a2, a3⟩, hag⟩
    · exact .inr (.inl h1)
    · refine .inr (.inr ⟨P, nm, t, q, z, by rw [a1], a3, fun b hb0 hb => ?_⟩)
      rw [hc2]; exact hag b hb0 hb
  · unfold cueL at h
    split at h
    · split at h
      · rename_i e; injection h with h; exact .inl ⟨h.symm, e⟩
      · injection h with h; exact .inr (.inl h.symm)
    · split at h
      · exact .inr (.inl (wholeP_some h))
      · cases h
theorem cueL_whole (s : List UInt8) (ps : List Pc) (h : cueL s = some ps) : wholeL ps = s := by
  rcases cue_shape s ps h with ⟨rfl, rfl⟩ | rfl | ⟨P, nm, t, q, z, rfl, rfl, _⟩
  · rfl
  · exact wholeL_mk s
  · rw [whole_cons, whole_cons, endP_whole]; simp [mk]
theorem cueL_len (s : List UInt8) (ps : List Pc) (h : cueL s = some ps) : ps.length ≤ 4 * s.length + 4 := by
  rcases cue_shape s ps h with ⟨rfl, rfl⟩ | rfl | ⟨P, nm, t, q, z, rfl, rfl, _⟩
  · simp
  · simp
  · have := (endP_len (q ++ z)).1
    simp only [List.length_cons]; omega
theorem cueL_nm (s : List UInt8) (ps : List Pc) (h : cueL s = some ps) : nmC ps ≤ 1 := by
  rcases cue_shape s ps h with ⟨rfl, rfl⟩ | rfl | ⟨P, nm, t, q, z, rfl, rfl, _⟩
  · simp [nmC]
  · simp [nmC, mk]
  · have e : mk (P ++ q) :: (false, nm, t) :: endP (q ++ z) = [mk (P ++ q), (false, nm, t)] ++ endP (q ++ z) := rfl
    rw [e, nmC_append, nmC_marks _ (endP_marks _)]
    simp [nmC, mk]
theorem cue_again (b : List UInt8) (hb0 : b ≠ []) (hb : ∀ c ∈ b, smB c = true) (s : List UInt8) (ps : List Pc) (h : cueL s = some ps) : cueL (wholeL (ps.map (subP b))) = some (ps.map (subP b)) := by
  have hb34 : 34 ∉ b := fun e => by have := hb 34 e; exact absurd this (by decide)
  rcases cue_shape s ps h with ⟨rfl, rfl⟩ | rfl | ⟨P, nm, t, q, z, rfl, rfl, hag⟩
  · exact h
  · rw [show [mk s].map (subP b) = [mk s] from rfl, wholeL_mk]; exact h
  · have e : (mk (P ++ q) :: (false, nm, t) :: endP (q ++ z)).map (subP b) = mk (P ++ q) :: (false, nm, b) :: endP (q ++ z) := by
      rw [List.map_cons, List.map_cons, sub_marks b _ (endP_marks _)]; rfl
    rw [e, whole_cons, whole_cons, endP_whole]
    have := hag b hb0 hb34
    rw [show (mk (P ++ q)).2.2 ++ (((false, nm, b) : Pc).2.2 ++ (q ++ z)) = P ++ (q ++ (b ++ (q ++ z))) by simp [mk]]
    exact this
theorem cue_changes (b : List UInt8) (hb0 : b ≠ []) (hb : ∀ c ∈ b, smB c = true) (t : List UInt8) (ps : List Pc) (h : walkL cueL (linesL t) = .inl ps) : walkL cueL (linesL (wholeL (ps.map (subP b)))) = .inl (ps.map (subP b)) :=
  changes_plainG cueL (by rfl) cueL_whole b hb (fun s ps _ h => cue_again b hb0 hb s ps h) t ps h
theorem cue_changes_len (b : List UInt8) (hb : b.length ≤ 50) (t : List UInt8) (ht : t.length ≤ 500) (ps : List Pc) (h : walkL cueL (linesL t) = .inl ps) : (wholeL (ps.map (subP b))).length ≤ 25500 :=
  changes_lenG cueL cueL_whole cueL_nm b hb t ht ps h
end Go.Proofs.Ytdjeeagedcppaaa
