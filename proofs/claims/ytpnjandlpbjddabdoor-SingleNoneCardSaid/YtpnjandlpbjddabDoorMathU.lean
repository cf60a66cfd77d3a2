/- UTF-8 as plain lists: signs, their bytes, the decoding of a list's head, and that every list of bytes is signs' bytes and a rest that begins none. No program in sight. -/
import Derived.Lib.DecodeN
import Derived.Lib.RuneBytes
namespace Go.Proofs.YtpnjandlpbjddabDoor
open Go

def scalarB (p : Int) : Bool := decide (0 ≤ p ∧ p ≤ 1114111 ∧ (p < 55296 ∨ 57343 < p))
theorem scalarB_iff {p : Int} : scalarB p = true ↔ (0 ≤ p ∧ p ≤ 1114111 ∧ (p < 55296 ∨ 57343 < p)) := by simp [scalarB]
def textL (ps : List Int) : List UInt8 := ps.flatMap Lib.encodeRune
def decL (l : List UInt8) : Nat × Nat := Lib.decodeN l.length (l.getD 0 0).toNat (l.getD 1 0).toNat (l.getD 2 0).toNat (l.getD 3 0).toNat
def errD (d : Nat × Nat) : Prop := d.1 = 65533 ∧ d.2 ≤ 1
instance (d : Nat × Nat) : Decidable (errD d) := inferInstanceAs (Decidable (_ ∧ _))

theorem textL_nil : textL [] = [] := rfl
theorem textL_cons (p : Int) (ps : List Int) : textL (p :: ps) = Lib.encodeRune p ++ textL ps := rfl
theorem textL_append (a b : List Int) : textL (a ++ b) = textL a ++ textL b := by simp [textL]
theorem textL_snoc (a : List Int) (p : Int) : textL (a ++ [p]) = textL a ++ Lib.encodeRune p := by simp [textL]

theorem getB (s : ByteArray) (i : Nat) : s.get! i = s.data.toList.getD i 0 := by
  by_cases h : i < s.size
  · have : s.get! i = s.data[i]'h := by simp [ByteArray.get!, getElem!_pos, h]
    rw [this]
    have h2 : i < s.data.toList.length := by simpa using h
    simp [List.getD, List.getElem?_eq_getElem h2]
  · have h3 : s.data.size ≤ i := by simpa using h
    have : s.get! i = default := by
      have e : ¬ i < s.data.size := by omega
      simp only [ByteArray.get!, getElem!_def, Array.getElem?_eq_none h3]
    rw [this]
    have h2 : s.data.toList.length ≤ i := by simpa using h
    simp [List.getD, List.getElem?_eq_none h2]
    rfl

theorem decode_drop (s : ByteArray) (i : Nat) : Utf8.decode s i = decL (s.data.toList.drop i) := by
  have hl : (s.data.toList.drop i).length = s.size - i := by simp
  have hg : ∀ j, (s.data.toList.drop i).getD j 0 = s.data.toList.getD (i + j) 0 := by
    intro j
    simp [List.getD, List.getElem?_drop]
  rw [Lib.decode_at, decL, hl, hg 0, hg 1, hg 2, hg 3, getB, getB, getB, getB]
  rfl

theorem toNat_u8 (n : Int) (h0 : 0 ≤ n) (h1 : n < 256) : (n.toNat.toUInt8).toNat = n.toNat := by
  have := h0
  simp [Nat.toUInt8, UInt8.toNat_ofNat']
  omega

theorem enc_one {p : Int} (h0 : 0 ≤ p) (h1 : p ≤ 127) : Lib.encodeRune p = [p.toNat.toUInt8] := by
  simp [Lib.encodeRune, Lib.encodeRuneZ_one h0 h1]
theorem enc_two {p : Int} (h0 : 128 ≤ p) (h1 : p ≤ 2047) : Lib.encodeRune p = [(192 + p / 64).toNat.toUInt8, (128 + p % 64).toNat.toUInt8] := by
  simp [Lib.encodeRune, Lib.encodeRuneZ_two h0 h1]
theorem enc_three {p : Int} (h : (2048 ≤ p ∧ p < 55296) ∨ (57343 < p ∧ p ≤ 65535)) : Lib.encodeRune p = [(224 + p / 4096).toNat.toUInt8, (128 + p / 64 % 64).toNat.toUInt8, (128 + p % 64).toNat.toUInt8] := by
  simp [Lib.encodeRune, Lib.encodeRuneZ_three h]
theorem enc_four {p : Int} (h0 : 65536 ≤ p) (h1 : p ≤ 1114111) : Lib.encodeRune p = [(240 + p / 262144).toNat.toUInt8, (128 + p / 4096 % 64).toNat.toUInt8, (128 + p / 64 % 64).toNat.toUInt8, (128 + p % 64).toNat.toUInt8] := by
  simp [Lib.encodeRune, Lib.encodeRuneZ_four h0 h1]

theorem enc_len (p : Int) : 1 ≤ (Lib.encodeRune p).length ∧ (Lib.encodeRune p).length ≤ 4 := by
  have := Lib.encodeRuneZ_length p
  simpa [Lib.encodeRune] using this
theorem enc_ne (p : Int) : Lib.encodeRune p ≠ [] := by
  intro h
  have h1 := (enc_len p).1
  rw [h] at h1
  simp at h1

theorem four_cases {p : Int} (h : scalarB p = true) : (0 ≤ p ∧ p ≤ 127) ∨ (128 ≤ p ∧ p ≤ 2047) ∨ ((2048 ≤ p ∧ p < 55296) ∨ (57343 < p ∧ p ≤ 65535)) ∨ (65536 ≤ p ∧ p ≤ 1114111) := by
  rw [scalarB_iff] at h; omega

/-- What is encoded is decoded. -/
theorem decL_enc {p : Int} (h : scalarB p = true) (t : List UInt8) : decL (Lib.encodeRune p ++ t) = (p.toNat, (Lib.encodeRune p).length) := by
  rcases four_cases h with ⟨h0, h1⟩ | ⟨h0, h1⟩ | h3 | ⟨h0, h1⟩
  · rw [enc_one h0 h1]
    simp only [decL, List.cons_append, List.nil_append, List.getD_cons_zero, toNat_u8 p h0 (by omega), List.length_cons, List.length_nil]
    unfold Lib.decodeN
    rw [if_pos (by omega)]
  · rw [enc_two h0 h1]
    simp only [decL, List.cons_append, List.nil_append, List.getD_cons_zero, List.getD_cons_succ, toNat_u8 (192 + p / 64) (by omega) (by omega), toNat_u8 (128 + p % 64) (by omega) (by omega), List.length_cons, List.length_nil]
    unfold Lib.decodeN
    rw [if_neg (by omega), if_pos (by omega), if_pos (by omega)]
    exact Prod.ext (by simp only; omega) rfl
  · rw [enc_three h3]
    simp only [decL, List.cons_append, List.nil_append, List.getD_cons_zero, List.getD_cons_succ, toNat_u8 (224 + p / 4096) (by omega) (by omega), toNat_u8 (128 + p / 64 % 64) (by omega) (by omega), toNat_u8 (128 + p % 64) (by omega) (by omega), List.length_cons, List.length_nil]
    unfold Lib.decodeN
    rw [if_neg (by omega), if_neg (by omega), if_pos (by omega), if_pos (by omega)]
    exact Prod.ext (by simp only; omega) rfl
  · rw [enc_four h0 h1]
    simp only [decL, List.cons_append, List.nil_append, List.getD_cons_zero, List.getD_cons_succ, toNat_u8 (240 + p / 262144) (by omega) (by omega), toNat_u8 (128 + p / 4096 % 64) (by omega) (by omega), toNat_u8 (128 + p / 64 % 64) (by omega) (by omega), toNat_u8 (128 + p % 64) (by omega) (by omega), List.length_cons, List.length_nil]
    unfold Lib.decodeN
    rw [if_neg (by omega), if_neg (by omega), if_neg (by omega), if_pos (by omega), if_pos (by omega)]
    exact Prod.ext (by simp only; omega) rfl

theorem not_err_enc {p : Int} (h : scalarB p = true) (t : List UInt8) : ¬ errD (decL (Lib.encodeRune p ++ t)) := by
  rw [decL_enc h]
  rintro ⟨h1, h2⟩
  have hp : p = 65533 := by
    rw [scalarB_iff] at h
    simp only at h1
    omega
  subst hp
  revert h2
  decide

theorem u8_eq {b : UInt8} {n : Int} (h : n = (b.toNat : Int)) : n.toNat.toUInt8 = b := by
  subst h
  simp [Nat.toUInt8]

/-- What is decoded without a fault is encoded as it was. -/
theorem decL_ok {l : List UInt8} (hl : l ≠ []) (he : ¬ errD (decL l)) : ∃ t, l = Lib.encodeRune ((decL l).1 : Int) ++ t ∧ scalarB ((decL l).1 : Int) = true ∧ (Lib.encodeRune ((decL l).1 : Int)).length = (decL l).2 := by
  match l, hl with
  | b0 :: r, _ =>
    have k0 := b0.toNat_lt
    revert he
    simp only [decL, List.getD_cons_zero, List.getD_cons_succ, List.length_cons]
    unfold Lib.decodeN
    by_cases c0 : b0.toNat < 128
    · rw [if_pos c0]
      intro _
      refine ⟨r, ?_, by rw [scalarB_iff]; simp only; omega, by rw [enc_one (by simp only; omega) (by simp only; omega)]; rfl⟩
      rw [enc_one (by simp only; omega) (by simp only; omega)]
      simp only [List.cons_append, List.nil_append, List.cons.injEq, and_true]
      exact (u8_eq rfl).symm
    rw [if_neg c0]
    have hlen : ∀ n, (n < r.length + 1) = (n ≤ r.length) := fun n => propext Nat.lt_succ_iff
    simp only [hlen]
    by_cases c1 : b0.toNat / 32 = 6 ∧ 1 ≤ r.length ∧ (r.getD 0 0).toNat / 64 = 2
    · rw [if_pos c1]
      obtain ⟨d0, d1, d2⟩ := c1
      match r, d1, d2 with
      | b1 :: r, _, d2 =>
        have k1 := b1.toNat_lt
        simp only [List.getD_cons_zero] at d2 ⊢
        split
        · rename_i e
          intro _
          have hr : (128 : Int) ≤ ((b0.toNat % 32 * 64 + b1.toNat % 64 : Nat) : Int) ∧ ((b0.toNat % 32 * 64 + b1.toNat % 64 : Nat) : Int) ≤ 2047 := by omega
          refine ⟨r, ?_, by rw [scalarB_iff]; simp only; omega, by rw [enc_two hr.1 hr.2]; rfl⟩
          rw [enc_two hr.1 hr.2]
          simp only [List.cons_append, List.nil_append, List.cons.injEq, and_true]
          exact ⟨(u8_eq (by omega)).symm, (u8_eq (by omega)).symm⟩
        · intro he; exact absurd ⟨rfl, Nat.le_refl 1⟩ he
    rw [if_neg c1]
    by_cases c2 : b0.toNat / 16 = 14 ∧ (1 ≤ r.length ∧ (r.getD 0 0).toNat / 64 = 2) ∧ (2 ≤ r.length ∧ (r.getD 1 0).toNat / 64 = 2)
    · rw [if_pos c2]
      obtain ⟨d0, ⟨_, d2⟩, d3, d4⟩ := c2
      match r, d3, d2, d4 with
      | b1 :: b2 :: r, _, d2, d4 =>
        have k1 := b1.toNat_lt
        have k2 := b2.toNat_lt
        simp only [List.getD_cons_zero, List.getD_cons_succ] at d2 d4 ⊢
        split
        · rename_i e
          intro _
          have hr : (2048 ≤ ((b0.toNat % 16 * 4096 + b1.toNat % 64 * 64 + b2.toNat % 64 : Nat) : Int) ∧ ((b0.toNat % 16 * 4096 + b1.toNat % 64 * 64 + b2.toNat % 64 : Nat) : Int) < 55296) ∨ (57343 < ((b0.toNat % 16 * 4096 + b1.toNat % 64 * 64 + b2.toNat % 64 : Nat) : Int) ∧ ((b0.toNat % 16 * 4096 + b1.toNat % 64 * 64 + b2.toNat % 64 : Nat) : Int) ≤ 65535) := by omega
          refine ⟨r, ?_, by rw [scalarB_iff]; simp only; omega, by rw [enc_three hr]; rfl⟩
          rw [enc_three hr]
          simp only [List.cons_append, List.nil_append, List.cons.injEq, and_true]
          exact ⟨(u8_eq (by omega)).symm, (u8_eq (by omega)).symm, (u8_eq (by omega)).symm⟩
        · intro he; exact absurd ⟨rfl, Nat.le_refl 1⟩ he
    rw [if_neg c2]
    by_cases c3 : b0.toNat / 8 = 30 ∧ (1 ≤ r.length ∧ (r.getD 0 0).toNat / 64 = 2) ∧ (2 ≤ r.length ∧ (r.getD 1 0).toNat / 64 = 2) ∧ (3 ≤ r.length ∧ (r.getD 2 0).toNat / 64 = 2)
    · rw [if_pos c3]
      obtain ⟨d0, ⟨_, d2⟩, ⟨_, d4⟩, d5, d6⟩ := c3
      match r, d5, d2, d4, d6 with
      | b1 :: b2 :: b3 :: r, _, d2, d4, d6 =>
        have k1 := b1.toNat_lt
        have k2 := b2.toNat_lt
        have k3 := b3.toNat_lt
        simp only [List.getD_cons_zero, List.getD_cons_succ] at d2 d4 d6 ⊢
        split
        · rename_i e
          intro _
          have hr : (65536 : Int) ≤ ((b0.toNat % 8 * 262144 + b1.toNat % 64 * 4096 + b2.toNat % 64 * 64 + b3.toNat % 64 : Nat) : Int) ∧ ((b0.toNat % 8 * 262144 + b1.toNat % 64 * 4096 + b2.toNat % 64 * 64 + b3.toNat % 64 : Nat) : Int) ≤ 1114111 := by omega
          refine ⟨r, ?_, by rw [scalarB_iff]; simp only; omega, by rw [enc_four hr.1 hr.2]; rfl⟩
          rw [enc_four hr.1 hr.2]
          simp only [List.cons_append, List.nil_append, List.cons.injEq, and_true]
          exact ⟨(u8_eq (by omega)).symm, (u8_eq (by omega)).symm, (u8_eq (by omega)).symm, (u8_eq (by omega)).symm⟩
        · intro he; exact absurd ⟨rfl, Nat.le_refl 1⟩ he
    rw [if_neg c3]
    intro he; exact absurd ⟨rfl, Nat.le_refl 1⟩ he

/-- The bytes s are just the signs ps. -/
def Good (s : ByteArray) (ps : List Int) : Prop := s.data.toList = textL ps ∧ ∀ p ∈ ps, scalarB p = true
/-- Behind n bytes that are signs there stands none. -/
def BadAt (s : ByteArray) (n : Nat) : Prop := ∃ ps r, s.data.toList = textL ps ++ r ∧ (∀ p ∈ ps, scalarB p = true) ∧ n = (textL ps).length ∧ r ≠ [] ∧ errD (decL r)

theorem split_text : ∀ n (l : List UInt8), l.length ≤ n → ∃ ps r, l = textL ps ++ r ∧ (∀ p ∈ ps, scalarB p = true) ∧ (r = [] ∨ errD (decL r))
  | 0, l, h => ⟨[], [], by simpa [textL_nil] using h, by simp, .inl rfl⟩
  | n + 1, l, h => by
    by_cases h0 : l = []
    · exact ⟨[], [], by simpa [textL_nil] using h0, by simp, .inl rfl⟩
    by_cases he : errD (decL l)
    · exact ⟨[], l, by simp [textL_nil], by simp, .inr he⟩
    obtain ⟨t, ht, hs, _⟩ := decL_ok h0 he
    have hlt : t.length ≤ n := by
      have h1 := congrArg List.length ht
      rw [List.length_append] at h1
      have := (enc_len ((decL l).1 : Int)).1
      omega
    obtain ⟨ps, r, h1, h2, h3⟩ := split_text n t hlt
    refine ⟨((decL l).1 : Int) :: ps, r, ?_, ?_, h3⟩
    · rw [textL_cons, List.append_assoc, ← h1]; exact ht
    · intro p hp
      rcases List.mem_cons.1 hp with rfl | hp
      · exact hs
      · exact h2 p hp

theorem good_or_bad (s : ByteArray) : (∃ ps, Good s ps) ∨ ∃ n, BadAt s n := by
  obtain ⟨ps, r, h1, h2, h3⟩ := split_text _ s.data.toList (Nat.le_refl _)
  rcases h3 with rfl | h3
  · exact .inl ⟨ps, by simpa using h1, h2⟩
  · by_cases hr : r = []
    · subst hr; exact .inl ⟨ps, by simpa using h1, h2⟩
    · exact .inr ⟨_, ps, r, h1, h2, rfl, hr, h3⟩

theorem text_unique : ∀ (ps qs : List Int) (r t : List UInt8), textL ps ++ r = textL qs ++ t → (∀ p ∈ ps, scalarB p = true) → (∀ p ∈ qs, scalarB p = true) → (r = [] ∨ errD (decL r)) → (t = [] ∨ errD (decL t)) → ps = qs ∧ r = t
  | [], [], r, t, h, _, _, _, _ => ⟨rfl, by simpa [textL_nil] using h⟩
  | [], q :: qs, r, t, h, _, hq, hr, _ => by
    exfalso
    rw [textL_nil, List.nil_append, textL_cons, List.append_assoc] at h
    subst h
    rcases hr with hr | hr
    · exact enc_ne q (List.append_eq_nil_iff.1 hr).1
    · exact not_err_enc (hq q (List.mem_cons_self ..)) _ hr
  | p :: ps, [], r, t, h, hp, _, _, ht => by
    exfalso
    rw [textL_nil, List.nil_append, textL_cons, List.append_assoc] at h
    subst h
    rcases ht with hr | hr
    · exact enc_ne p (List.append_eq_nil_iff.1 hr).1
    · exact not_err_enc (hp p (List.mem_cons_self ..)) _ hr
  | p :: ps, q :: qs, r, t, h, hp, hq, hr, ht => by
    have sp := hp p (List.mem_cons_self ..)
    have sq := hq q (List.mem_cons_self ..)
    rw [textL_cons, List.append_assoc, textL_cons, List.append_assoc] at h
    have hd := congrArg decL h
    rw [decL_enc sp, decL_enc sq] at hd
    have hpq : p = q := by
      have h1 := (Prod.ext_iff.1 hd).1
      simp only at h1
      rw [scalarB_iff] at sp sq
      omega
    subst hpq
    obtain ⟨h1, h2⟩ := text_unique ps qs r t (List.append_cancel_left h) (fun x hx => hp x (List.mem_cons_of_mem _ hx)) (fun x hx => hq x (List.mem_cons_of_mem _ hx)) hr ht
    exact ⟨by rw [h1], h2⟩

theorem Good.unique {s : ByteArray} {ps qs : List Int} (h : Good s ps) (k : Good s qs) : ps = qs :=
  (text_unique ps qs [] [] (by rw [List.append_nil, List.append_nil, ← h.1, k.1]) h.2 k.2 (.inl rfl) (.inl rfl)).1
theorem Good.not_bad {s : ByteArray} {ps : List Int} {n : Nat} (h : Good s ps) (k : BadAt s n) : False := by
  obtain ⟨qs, r, h1, h2, _, h4, h5⟩ := k
  exact h4 (text_unique ps qs [] r (by rw [List.append_nil, ← h.1, h1]) h.2 h2 (.inl rfl) (.inr h5)).2.symm
theorem BadAt.unique {s : ByteArray} {n m : Nat} (h : BadAt s n) (k : BadAt s m) : n = m := by
  obtain ⟨ps, r, h1, h2, h3, h4, h5⟩ := h
  obtain ⟨qs, t, k1, k2, k3, k4, k5⟩ := k
  have := (text_unique ps qs r t (by rw [← h1, k1]) h2 k2 (.inr h5) (.inr k5)).1
  subst this
  rw [h3, k3]

theorem good_text {ps : List Int} (h : ∀ p ∈ ps, scalarB p = true) : Good ⟨(textL ps).toArray⟩ ps := ⟨by simp, h⟩
theorem Good.eq {s : ByteArray} {ps : List Int} (h : Good s ps) : s = ⟨(textL ps).toArray⟩ := by
  rw [← h.1]
theorem Good.size {s : ByteArray} {ps : List Int} (h : Good s ps) : s.size = (textL ps).length := by
  rw [← h.1]; simp
theorem len_textL (ps : List Int) : ps.length ≤ (textL ps).length ∧ (textL ps).length ≤ 4 * ps.length := by
  induction ps with
  | nil => simp [textL_nil]
  | cons p ps ih =>
    have := enc_len p
    rw [textL_cons, List.length_append, List.length_cons]
    omega
theorem Good.len {s : ByteArray} {ps : List Int} (h : Good s ps) : ps.length ≤ s.size := by
  rw [h.size]; exact (len_textL ps).1
theorem BadAt.lt {s : ByteArray} {n : Nat} (h : BadAt s n) : n < s.size := by
  obtain ⟨ps, r, h1, _, h3, h4, _⟩ := h
  have : s.size = (textL ps).length + r.length := by rw [← List.length_append, ← h1]; simp
  have : 0 < r.length := List.length_pos_iff.2 h4
  omega
end Go.Proofs.YtpnjandlpbjddabDoor
