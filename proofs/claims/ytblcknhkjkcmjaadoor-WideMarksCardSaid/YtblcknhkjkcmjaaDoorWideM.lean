/- Units of two bytes as plain lists: signs, their units, the reading of a list's head, and that every list of bytes is signs' units and a rest that begins none. No program in sight; no condition. -/
import Derived.Test.YtblcknhkjkcmjaaDoorMathR
set_option maxRecDepth 100000
namespace Go.Proofs.YtblcknhkjkcmjaaDoor
open Go

def unitB (big : Bool) (a b : UInt8) : Int := if big then (a.toNat : Int) * 256 + b.toNat else (b.toNat : Int) * 256 + a.toNat
def wsign (big : Bool) : List UInt8 → Int × Nat
  | a :: b :: r =>
    if unitB big a b < 55296 ∨ 57344 ≤ unitB big a b then (unitB big a b, 2)
    else if 56320 ≤ unitB big a b then (0, 0)
    else match r with
      | c :: d :: _ => if unitB big c d < 56320 ∨ 57344 ≤ unitB big c d then (0, 0) else (65536 + (unitB big a b - 55296) * 1024 + (unitB big c d - 56320), 4)
      | _ => (0, 0)
  | _ => (0, 0)
def two (big : Bool) (u : Int) : List UInt8 := if big then [(u / 256).toNat.toUInt8, (u % 256).toNat.toUInt8] else [(u % 256).toNat.toUInt8, (u / 256).toNat.toUInt8]
def wenc (big : Bool) (p : Int) : List UInt8 := if p < 65536 then two big p else two big (55296 + (p - 65536) / 1024) ++ two big (56320 + (p - 65536) % 1024)
def wtext (big : Bool) (ps : List Int) : List UInt8 := ps.flatMap (wenc big)

theorem wtext_nil (big : Bool) : wtext big [] = [] := rfl
theorem wtext_cons (big : Bool) (p : Int) (ps : List Int) : wtext big (p :: ps) = wenc big p ++ wtext big ps := rfl
theorem wtext_append (big : Bool) (a b : List Int) : wtext big (a ++ b) = wtext big a ++ wtext big b := by simp [wtext]
theorem wtext_snoc (big : Bool) (a : List Int) (p : Int) : wtext big (a ++ [p]) = wtext big a ++ wenc big p := by simp [wtext]

theorem unitB_range (big : Bool) (a b : UInt8) : 0 ≤ unitB big a b ∧ unitB big a b < 65536 := by
  have := a.toNat_lt; have := b.toNat_lt
  unfold unitB; split <;> omega
theorem two_parts (big : Bool) {u : Int} (h0 : 0 ≤ u) (h1 : u < 65536) : ∃ a b, two big u = [a, b] ∧ unitB big a b = u := by
  cases big
  · refine ⟨_, _, rfl, ?_⟩
    simp only [unitB, Bool.false_eq_true, if_false, toNat_u8 (u / 256) (by omega) (by omega), toNat_u8 (u % 256) (by omega) (by omega)]
    omega
  · refine ⟨_, _, rfl, ?_⟩
    simp only [unitB, if_true, toNat_u8 (u / 256) (by omega) (by omega), toNat_u8 (u % 256) (by omega) (by omega)]
    omega
theorem two_unit (big : Bool) (a b : UInt8) : two big (unitB big a b) = [a, b] := by
  have := a.toNat_lt; have := b.toNat_lt
  cases big <;> simp only [two, unitB, Bool.false_eq_true, if_false, if_true, List.cons.injEq, and_true] <;> exact ⟨u8_eq (by omega), u8_eq (by omega)⟩
theorem two_len (big : Bool) (u : Int) : (two big u).length = 2 := by unfold two; split <;> rfl
theorem wenc_len (big : Bool) (p : Int) : (wenc big p).length = if p < 65536 then 2 else 4 := by
  unfold wenc; split <;> simp [two_len]
theorem wenc_len' (big : Bool) (p : Int) : 2 ≤ (wenc big p).length ∧ (wenc big p).length ≤ 4 := by
  rw [wenc_len]; split <;> omega
theorem wenc_ne (big : Bool) (p : Int) : wenc big p ≠ [] := by
  intro h
  have := (wenc_len' big p).1
  rw [h] at this
  simp at this

theorem wsign_enc (big : Bool) {p : Int} (h : scalarB p = true) (t : List UInt8) : wsign big (wenc big p ++ t) = (p, (wenc big p).length) := by
  rw [scalarB_iff] at h
  rw [wenc_len]
  unfold wenc
  by_cases hp : p < 65536
  · rw [if_pos hp, if_pos hp]
    obtain ⟨a, b, e, hu⟩ := two_parts big (u := p) (by omega) hp
    rw [e]
    simp only [List.cons_append, List.nil_append, wsign, hu]
    rw [if_pos (by omega)]
  · rw [if_neg hp, if_neg hp]
    obtain ⟨a, b, e, hu⟩ := two_parts big (u := 55296 + (p - 65536) / 1024) (by omega) (by omega)
    obtain ⟨c, d, e2, hv⟩ := two_parts big (u := 56320 + (p - 65536) % 1024) (by omega) (by omega)
    rw [e, e2]
    simp only [List.cons_append, List.nil_append, wsign, hu, hv]
    rw [if_neg (by omega), if_neg (by omega), if_neg (by omega)]
    exact Prod.ext (by simp only; omega) rfl

theorem wsign_ok (big : Bool) {l : List UInt8} (he : (wsign big l).2 ≠ 0) : ∃ t, l = wenc big (wsign big l).1 ++ t ∧ scalarB (wsign big l).1 = true ∧ (wenc big (wsign big l).1).length = (wsign big l).2 := by
  match l with
  | [] => exact absurd rfl he
  | [_] => exact absurd rfl he
  | a :: b :: r =>
    have hu := unitB_range big a b
    by_cases h1 : unitB big a b < 55296 ∨ 57344 ≤ unitB big a b
    · simp only [wsign, if_pos h1]
      refine ⟨r, ?_, by rw [scalarB_iff]; omega, by rw [wenc_len, if_pos (by omega)]⟩
      rw [wenc, if_pos (by omega), two_unit]
      rfl
    · by_cases h2 : 56320 ≤ unitB big a b
      · simp only [wsign, if_neg h1, if_pos h2] at he
        exact absurd rfl he
      · match r with
        | [] => simp only [wsign, if_neg h1, if_neg h2] at he; exact absurd rfl he
        | [_] => simp only [wsign, if_neg h1, if_neg h2] at he; exact absurd rfl he
        | c :: d :: r =>
          have hv := unitB_range big c d
          by_cases h3 : unitB big c d < 56320 ∨ 57344 ≤ unitB big c d
          · simp only [wsign, if_neg h1, if_neg h2, if_pos h3] at he
            exact absurd rfl he
          · simp only [wsign, if_neg h1, if_neg h2, if_neg h3]
            refine ⟨r, ?_, by rw [scalarB_iff]; omega, by rw [wenc_len, if_neg (by omega)]⟩
            rw [wenc, if_neg (by omega)]
            have e1 : 55296 + (65536 + (unitB big a b - 55296) * 1024 + (unitB big c d - 56320) - 65536) / 1024 = unitB big a b := by omega
            have e2 : 56320 + (65536 + (unitB big a b - 55296) * 1024 + (unitB big c d - 56320) - 65536) % 1024 = unitB big c d := by omega
            rw [e1, e2, two_unit, two_unit]
            rfl

/-- The bytes s begin with the units of the signs ps; behind them stands r. -/
def WPre (big : Bool) (s : ByteArray) (ps : List Int) (r : List UInt8) : Prop := s.data.toList = wtext big ps ++ r ∧ ∀ p ∈ ps, scalarB p = true
def WGood (big : Bool) (s : ByteArray) (ps : List Int) : Prop := WPre big s ps []
def WBadAt (big : Bool) (s : ByteArray) (n : Nat) : Prop := ∃ ps r, WPre big s ps r ∧ n = (wtext big ps).length ∧ r ≠ [] ∧ (wsign big r).2 = 0
def WRun (big : Bool) (ps : List Int) (k i : Nat) : Prop := k ≤ ps.length ∧ i = (wtext big (ps.take k)).length

theorem split_wide (big : Bool) : ∀ n (l : List UInt8), l.length ≤ n → ∃ ps r, l = wtext big ps ++ r ∧ (∀ p ∈ ps, scalarB p = true) ∧ (r = [] ∨ (wsign big r).2 = 0)
  | 0, l, h => ⟨[], [], by simpa [wtext_nil] using h, by simp, .inl rfl⟩
  | n + 1, l, h => by
    by_cases he : (wsign big l).2 = 0
    · exact ⟨[], l, by simp [wtext_nil], by simp, .inr he⟩
    obtain ⟨t, ht, hs, _⟩ := wsign_ok big he
    have hlt : t.length ≤ n := by
      have h1 := congrArg List.length ht
      rw [List.length_append] at h1
      have := (wenc_len' big (wsign big l).1).1
      omega
    obtain ⟨ps, r, h1, h2, h3⟩ := split_wide big n t hlt
    refine ⟨(wsign big l).1 :: ps, r, ?_, ?_, h3⟩
    · rw [wtext_cons, List.append_assoc, ← h1]; exact ht
    · intro p hp
      rcases List.mem_cons.1 hp with rfl | hp
      · exact hs
      · exact h2 p hp
theorem wgood_or_bad (big : Bool) (s : ByteArray) : (∃ ps, WGood big s ps) ∨ ∃ n, WBadAt big s n := by
  obtain ⟨ps, r, h1, h2, h3⟩ := split_wide big _ s.data.toList (Nat.le_refl _)
  by_cases hr : r = []
  · subst hr; exact .inl ⟨ps, h1, h2⟩
  · exact .inr ⟨_, ps, r, ⟨h1, h2⟩, rfl, hr, h3.resolve_left hr⟩

theorem WRun.zero (big : Bool) (ps : List Int) : WRun big ps 0 0 := ⟨Nat.zero_le _, rfl⟩
theorem WRun.drop {big : Bool} {s : ByteArray} {ps : List Int} {r : List UInt8} {k i : Nat} (hp : WPre big s ps r) (h : WRun big ps k i) : s.data.toList.drop i = wtext big (ps.drop k) ++ r := by
  have e : wtext big ps = wtext big (ps.take k) ++ wtext big (ps.drop k) := by rw [← wtext_append, List.take_append_drop]
  rw [hp.1, e, List.append_assoc, h.2, List.drop_left]
theorem WRun.next {big : Bool} {ps : List Int} {k i : Nat} (h : WRun big ps k i) (hk : k < ps.length) : WRun big ps (k + 1) (i + (wenc big (ps.getD k 0)).length) :=
  ⟨hk, by rw [take_getD hk, wtext_append, List.length_append, ← h.2, wtext_cons, wtext_nil, List.append_nil]⟩
theorem WRun.end_ {big : Bool} {s : ByteArray} {ps : List Int} {r : List UInt8} {i : Nat} (hp : WPre big s ps r) (h : WRun big ps ps.length i) : i = (wtext big ps).length ∧ s.data.toList.drop i = r ∧ i + r.length = s.size := by
  have hd := h.drop hp
  rw [List.drop_length, wtext_nil, List.nil_append] at hd
  have h2 := h.2
  rw [List.take_length] at h2
  refine ⟨h2, hd, ?_⟩
  have hl := congrArg List.length hp.1
  rw [List.length_append] at hl
  have hs : s.data.toList.length = s.size := by simp
  omega
theorem len_wtext (big : Bool) (ps : List Int) : 2 * ps.length ≤ (wtext big ps).length ∧ (wtext big ps).length ≤ 4 * ps.length := by
  induction ps with
  | nil => simp [wtext_nil]
  | cons p ps ih =>
    have := wenc_len' big p
    rw [wtext_cons, List.length_append, List.length_cons]
    omega
theorem WRun.le {big : Bool} {s : ByteArray} {ps : List Int} {r : List UInt8} {k i : Nat} (hp : WPre big s ps r) (h : WRun big ps k i) : 2 * k ≤ i ∧ i ≤ s.size ∧ k ≤ ps.length := by
  have h1 := (len_wtext big (ps.take k)).1
  rw [List.length_take, ← h.2] at h1
  have h0 := h.1
  have hl := congrArg List.length hp.1
  have e : wtext big ps = wtext big (ps.take k) ++ wtext big (ps.drop k) := by rw [← wtext_append, List.take_append_drop]
  rw [e, List.length_append, List.length_append, ← h.2] at hl
  have hs : s.data.toList.length = s.size := by simp
  omega
/-- The sign p, of n bytes, stands at place i of s: the k-th of ps. -/
def WStep (big : Bool) (s : ByteArray) (ps : List Int) (k i : Nat) (p : Int) (n : Nat) : Prop :=
  (∃ t, s.data.toList.drop i = wenc big p ++ t) ∧ n = (wenc big p).length ∧ p = ps.getD k 0 ∧ scalarB p = true
theorem WRun.step {big : Bool} {s : ByteArray} {ps : List Int} {r : List UInt8} {k i : Nat} (hp : WPre big s ps r) (h : WRun big ps k i) (hk : k < ps.length) :
    ∃ (p : Int) (n : Nat), WStep big s ps k i p n ∧ WRun big ps (k + 1) (i + n) ∧ 2 ≤ n ∧ n ≤ 4 ∧ i + n ≤ s.size ∧ 0 ≤ p ∧ p ≤ 1114111 := by
  have hd := h.drop hp
  rw [drop_getD hk, wtext_cons, List.append_assoc] at hd
  have hl := congrArg List.length hd
  rw [List.length_drop, List.length_append] at hl
  have h1 := wenc_len' big (ps.getD k 0)
  have hs : s.data.toList.length = s.size := by simp
  have hsc := hp.2 _ (getD_mem hk)
  have h4 := scalarB_iff.1 hsc
  exact ⟨_, _, ⟨⟨_, hd⟩, rfl, rfl, hsc⟩, h.next hk, h1.1, h1.2, by omega, h4.1, h4.2.1⟩
theorem WStep.snoc {big : Bool} {s : ByteArray} {ps : List Int} {k i n : Nat} {p : Int} (h : WStep big s ps k i p n) (hk : k < ps.length) : ps.take (k + 1) = ps.take k ++ [p] := by
  rw [take_getD hk, h.2.2.1]
theorem WStep.sign {big : Bool} {s : ByteArray} {ps : List Int} {k i n : Nat} {p : Int} (h : WStep big s ps k i p n) : wsign big (s.data.toList.drop i) = (p, n) := by
  obtain ⟨⟨t, ht⟩, hn, _, hs⟩ := h
  rw [ht, wsign_enc big hs, hn]

theorem wtext_unique (big : Bool) : ∀ (ps qs : List Int) (r t : List UInt8), wtext big ps ++ r = wtext big qs ++ t → (∀ p ∈ ps, scalarB p = true) → (∀ p ∈ qs, scalarB p = true) → (wsign big r).2 = 0 → (wsign big t).2 = 0 → ps = qs ∧ r = t
  | [], [], r, t, h, _, _, _, _ => ⟨rfl, by simpa [wtext_nil] using h⟩
  | [], q :: qs, r, t, h, _, hq, hr, _ => by
    exfalso
    rw [wtext_nil, List.nil_append, wtext_cons, List.append_assoc] at h
    subst h
    rw [wsign_enc big (hq q (List.mem_cons_self ..))] at hr
    have := (wenc_len' big q).1
    simp only at hr
    omega
  | p :: ps, [], r, t, h, hp, _, _, ht => by
    exfalso
    rw [wtext_nil, List.nil_append, wtext_cons, List.append_assoc] at h
    subst h
    rw [wsign_enc big (hp p (List.mem_cons_self ..))] at ht
    have := (wenc_len' big p).1
    simp only at ht
    omega
  | p :: ps, q :: qs, r, t, h, hp, hq, hr, ht => by
    have sp := hp p (List.mem_cons_self ..)
    have sq := hq q (List.mem_cons_self ..)
    rw [wtext_cons, List.append_assoc, wtext_cons, List.append_assoc] at h
    have hd := congrArg (wsign big) h
    rw [wsign_enc big sp, wsign_enc big sq] at hd
    have hpq : p = q := (Prod.ext_iff.1 hd).1
    subst hpq
    obtain ⟨h1, h2⟩ := wtext_unique big ps qs r t (List.append_cancel_left h) (fun x hx => hp x (List.mem_cons_of_mem _ hx)) (fun x hx => hq x (List.mem_cons_of_mem _ hx)) hr ht
    exact ⟨by rw [h1], h2⟩
theorem wgood_text (big : Bool) {ps : List Int} (h : ∀ p ∈ ps, scalarB p = true) : WGood big ⟨(wtext big ps).toArray⟩ ps := ⟨by simp, h⟩
theorem WGood.eq {big : Bool} {s : ByteArray} {ps : List Int} (h : WGood big s ps) : s = ⟨(wtext big ps).toArray⟩ := by
  have := h.1
  rw [List.append_nil] at this
  rw [← this]
end Go.Proofs.YtblcknhkjkcmjaaDoor
