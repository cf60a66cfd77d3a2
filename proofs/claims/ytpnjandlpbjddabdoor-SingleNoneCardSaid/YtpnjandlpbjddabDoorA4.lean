/- The document's sign at a place is the sign that is decoded there. Plain lists. -/
import Derived.Test.YtpnjandlpbjddabDoorA3
namespace Go.Proofs.YtpnjandlpbjddabDoor
open Go Go.RowKit

theorem moreZ_drop (l : List UInt8) (i k : Nat) : moreZ l (i + k) = moreZ (l.drop i) k := by
  unfold moreZ
  rw [List.length_drop]
  have : (l.drop i).getD k 0 = l.getD (i + k) 0 := by simp [List.getD, List.getElem?_drop]
  rw [this]
  have e : (l.length ≤ i + k) ↔ (l.length - i ≤ k) := by omega
  simp only [e]

/-- The head of a list as At sees it. -/
def atL (d : List UInt8) : Int × Int := atZ (d.getD 0 0).toNat (moreZ d 1) (moreZ d 2) (moreZ d 3)

theorem moreZ_cons (b : UInt8) (l : List UInt8) (k : Nat) : moreZ (b :: l) (k + 1) = moreZ l k := by
  unfold moreZ
  rw [List.length_cons, List.getD_cons_succ]
  have e : (l.length + 1 ≤ k + 1) ↔ (l.length ≤ k) := by omega
  simp only [e]
theorem moreZ_zero (b : UInt8) (l : List UInt8) (h0 : 128 ≤ b.toNat) (h1 : b.toNat ≤ 191) : moreZ (b :: l) 0 = (b.toNat : Int) - 128 := by
  unfold moreZ
  rw [List.length_cons, List.getD_cons_zero, if_neg (by omega), if_neg (by omega)]
theorem moreZ_some {l : List UInt8} {k : Nat} (h : 0 ≤ moreZ l k) : k < l.length ∧ 128 ≤ (l.getD k 0).toNat ∧ (l.getD k 0).toNat ≤ 191 ∧ moreZ l k = (l.getD k 0).toNat - 128 := by
  revert h
  unfold moreZ
  split
  · intro h; omega
  · split
    · intro h; omega
    · intro _; omega

theorem atL_enc {p : Int} (h : scalarB p = true) (t : List UInt8) : atL (Lib.encodeRune p ++ t) = (p, ((Lib.encodeRune p).length : Int)) := by
  rcases four_cases h with ⟨h0, h1⟩ | ⟨h0, h1⟩ | h3 | ⟨h0, h1⟩
  · rw [enc_one h0 h1]
    simp only [atL, List.cons_append, List.nil_append, List.getD_cons_zero, toNat_u8 p h0 (by omega), List.length_cons, List.length_nil]
    unfold atZ
    rw [if_pos (by omega)]
    exact Prod.ext (by simp only; omega) rfl
  · have hl := congrArg List.length (enc_two h0 h1)
    simp only [List.length_cons, List.length_nil] at hl
    rw [hl, enc_two h0 h1]
    have e0 := toNat_u8 (192 + p / 64) (by omega) (by omega)
    have e1 := toNat_u8 (128 + p % 64) (by omega) (by omega)
    simp only [atL, List.cons_append, List.nil_append, List.getD_cons_zero]
    rw [show moreZ ((192 + p / 64).toNat.toUInt8 :: (128 + p % 64).toNat.toUInt8 :: t) 1 = p % 64 from by
      rw [show (1 : Nat) = 0 + 1 from rfl, moreZ_cons, moreZ_zero _ _ (by omega) (by omega)]; omega]
    rw [e0]
    unfold atZ
    rw [if_neg (by omega), if_pos (by omega), if_neg (by omega)]
    have : ((((192 + p / 64).toNat : Nat) : Int) - 192) * 64 + p % 64 = p := by omega
    rw [this]
    unfold chkZ
    rw [if_pos ⟨h, by rw [hl]; rfl⟩]
    rfl
  · have hl := congrArg List.length (enc_three h3)
    simp only [List.length_cons, List.length_nil] at hl
    rw [hl, enc_three h3]
    have e0 := toNat_u8 (224 + p / 4096) (by omega) (by omega)
    have e1 := toNat_u8 (128 + p / 64 % 64) (by omega) (by omega)
    have e2 := toNat_u8 (128 + p % 64) (by omega) (by omega)
    simp only [atL, List.cons_append, List.nil_append, List.getD_cons_zero]
    rw [show moreZ ((224 + p / 4096).toNat.toUInt8 :: (128 + p / 64 % 64).toNat.toUInt8 :: (128 + p % 64).toNat.toUInt8 :: t) 1 = p / 64 % 64 from by
      rw [show (1 : Nat) = 0 + 1 from rfl, moreZ_cons, moreZ_zero _ _ (by omega) (by omega)]; omega]
    rw [show moreZ ((224 + p / 4096).toNat.toUInt8 :: (128 + p / 64 % 64).toNat.toUInt8 :: (128 + p % 64).toNat.toUInt8 :: t) 2 = p % 64 from by
      rw [show (2 : Nat) = 0 + 1 + 1 from rfl, moreZ_cons, moreZ_cons, moreZ_zero _ _ (by omega) (by omega)]; omega]
    rw [e0]
    unfold atZ
    rw [if_neg (by omega), if_neg (by omega), if_pos (by omega), if_neg (by omega), if_neg (by omega)]
    have : ((((224 + p / 4096).toNat : Nat) : Int) - 224) * 64 + p / 64 % 64 = p / 64 := by omega
    rw [this]
    have : p / 64 * 64 + p % 64 = p := by omega
    rw [this]
    unfold chkZ
    rw [if_pos ⟨h, by rw [hl]; rfl⟩]
    rfl
  · have hl := congrArg List.length (enc_four h0 h1)
    simp only [List.length_cons, List.length_nil] at hl
    rw [hl, enc_four h0 h1]
    have e0 := toNat_u8 (240 + p / 262144) (by omega) (by omega)
    have e1 := toNat_u8 (128 + p / 4096 % 64) (by omega) (by omega)
    have e2 := toNat_u8 (128 + p / 64 % 64) (by omega) (by omega)
    have e3 := toNat_u8 (128 + p % 64) (by omega) (by omega)
    simp only [atL, List.cons_append, List.nil_append, List.getD_cons_zero]
    rw [show moreZ ((240 + p / 262144).toNat.toUInt8 :: (128 + p / 4096 % 64).toNat.toUInt8 :: (128 + p / 64 % 64).toNat.toUInt8 :: (128 + p % 64).toNat.toUInt8 :: t) 1 = p / 4096 % 64 from by
      rw [show (1 : Nat) = 0 + 1 from rfl, moreZ_cons, moreZ_zero _ _ (by omega) (by omega)]; omega]
    rw [show moreZ ((240 + p / 262144).toNat.toUInt8 :: (128 + p / 4096 % 64).toNat.toUInt8 :: (128 + p / 64 % 64).toNat.toUInt8 :: (128 + p % 64).toNat.toUInt8 :: t) 2 = p / 64 % 64 from by
      rw [show (2 : Nat) = 0 + 1 + 1 from rfl, moreZ_cons, moreZ_cons, moreZ_zero _ _ (by omega) (by omega)]; omega]
    rw [show moreZ ((240 + p / 262144).toNat.toUInt8 :: (128 + p / 4096 % 64).toNat.toUInt8 :: (128 + p / 64 % 64).toNat.toUInt8 :: (128 + p % 64).toNat.toUInt8 :: t) 3 = p % 64 from by
      rw [show (3 : Nat) = 0 + 1 + 1 + 1 from rfl, moreZ_cons, moreZ_cons, moreZ_cons, moreZ_zero _ _ (by omega) (by omega)]; omega]
    rw [e0]
    unfold atZ
    rw [if_neg (by omega), if_neg (by omega), if_neg (by omega), if_pos (by omega), if_neg (by omega), if_neg (by omega), if_neg (by omega)]
    have : ((((240 + p / 262144).toNat : Nat) : Int) - 240) * 64 + p / 4096 % 64 = p / 4096 := by omega
    rw [this]
    have : p / 4096 * 64 + p / 64 % 64 = p / 64 := by omega
    rw [this]
    have : p / 64 * 64 + p % 64 = p := by omega
    rw [this]
    unfold chkZ
    rw [if_pos ⟨h, by rw [hl]; rfl⟩]
    rfl

theorem chkZ_or (n p : Int) : chkZ n p = (0, 0) ∨ (scalarB p = true ∧ ((Lib.encodeRune p).length : Int) = n) := by
  unfold chkZ
  split
  · rename_i h; exact .inr h
  · exact .inl rfl
theorem len_two {p : Int} (h : scalarB p = true) (hl : ((Lib.encodeRune p).length : Int) = 2) : 128 ≤ p ∧ p ≤ 2047 := by
  rcases four_cases h with ⟨h0, h1⟩ | h2 | h3 | ⟨h0, h1⟩
  · rw [enc_one h0 h1] at hl; simp at hl
  · exact h2
  · rw [enc_three h3] at hl; simp at hl
  · rw [enc_four h0 h1] at hl; simp at hl
theorem len_three {p : Int} (h : scalarB p = true) (hl : ((Lib.encodeRune p).length : Int) = 3) : (2048 ≤ p ∧ p < 55296) ∨ (57343 < p ∧ p ≤ 65535) := by
  rcases four_cases h with ⟨h0, h1⟩ | ⟨h0, h1⟩ | h3 | ⟨h0, h1⟩
  · rw [enc_one h0 h1] at hl; simp at hl
  · rw [enc_two h0 h1] at hl; simp at hl
  · exact h3
  · rw [enc_four h0 h1] at hl; simp at hl
theorem len_four {p : Int} (h : scalarB p = true) (hl : ((Lib.encodeRune p).length : Int) = 4) : 65536 ≤ p ∧ p ≤ 1114111 := by
  rcases four_cases h with ⟨h0, h1⟩ | ⟨h0, h1⟩ | h3 | h4
  · rw [enc_one h0 h1] at hl; simp at hl
  · rw [enc_two h0 h1] at hl; simp at hl
  · rw [enc_three h3] at hl; simp at hl
  · exact h4

theorem atL_or (d : List UInt8) (hd : d ≠ []) : atL d = (0, 0) ∨ ∃ p t, d = Lib.encodeRune p ++ t ∧ scalarB p = true := by
  match d, hd with
  | b0 :: r, _ =>
    have k0 := b0.toNat_lt
    unfold atL
    rw [List.getD_cons_zero, show (1 : Nat) = 0 + 1 from rfl, moreZ_cons, show (2 : Nat) = 1 + 1 from rfl, moreZ_cons, show (3 : Nat) = 2 + 1 from rfl, moreZ_cons]
    unfold atZ
    by_cases c0 : ((b0.toNat : Nat) : Int) < 128
    · refine .inr ⟨b0.toNat, r, ?_, by rw [scalarB_iff]; omega⟩
      rw [enc_one (by omega) (by omega)]
      simp only [List.cons_append, List.nil_append, List.cons.injEq, and_true]
      exact (u8_eq rfl).symm
    rw [if_neg c0]
    by_cases c1 : 192 ≤ ((b0.toNat : Nat) : Int) ∧ ((b0.toNat : Nat) : Int) < 224
    · rw [if_pos c1]
      by_cases m1 : moreZ r 0 < 0
      · rw [if_pos m1]; exact .inl rfl
      rw [if_neg m1]
      obtain ⟨l1, a1, z1, e1⟩ := moreZ_some (l := r) (k := 0) (by omega)
      match r, l1 with
      | b1 :: r, _ =>
        have k1 := b1.toNat_lt
        rw [List.getD_cons_zero] at a1 z1 e1
        rw [e1]
        rcases chkZ_or 2 (((b0.toNat : Int) - 192) * 64 + ((b1.toNat : Int) - 128)) with h | ⟨h, hl⟩
        · exact .inl h
        · have hp := len_two h hl
          refine .inr ⟨_, r, ?_, h⟩
          rw [enc_two hp.1 hp.2]
          simp only [List.cons_append, List.nil_append, List.cons.injEq, and_true]
          exact ⟨(u8_eq (by omega)).symm, (u8_eq (by omega)).symm⟩
    rw [if_neg c1]
    by_cases c2 : 224 ≤ ((b0.toNat : Nat) : Int) ∧ ((b0.toNat : Nat) : Int) < 240
    · rw [if_pos c2]
      by_cases m1 : moreZ r 0 < 0
      · rw [if_pos m1]; exact .inl rfl
      rw [if_neg m1]
      by_cases m2 : moreZ r 1 < 0
      · rw [if_pos m2]; exact .inl rfl
      rw [if_neg m2]
      obtain ⟨_, a1, z1, e1⟩ := moreZ_some (l := r) (k := 0) (by omega)
      obtain ⟨l2, a2, z2, e2⟩ := moreZ_some (l := r) (k := 1) (by omega)
      match r, l2 with
      | b1 :: b2 :: r, _ =>
        have k1 := b1.toNat_lt
        have k2 := b2.toNat_lt
        rw [List.getD_cons_zero] at a1 z1 e1
        rw [List.getD_cons_succ, List.getD_cons_zero] at a2 z2 e2
        rw [e1, e2]
        rcases chkZ_or 3 ((((b0.toNat : Int) - 224) * 64 + ((b1.toNat : Int) - 128)) * 64 + ((b2.toNat : Int) - 128)) with h | ⟨h, hl⟩
        · exact .inl h
        · have hp := len_three h hl
          refine .inr ⟨_, r, ?_, h⟩
          rw [enc_three hp]
          simp only [List.cons_append, List.nil_append, List.cons.injEq, and_true]
          exact ⟨(u8_eq (by omega)).symm, (u8_eq (by omega)).symm, (u8_eq (by omega)).symm⟩
    rw [if_neg c2]
    by_cases c3 : 240 ≤ ((b0.toNat : Nat) : Int) ∧ ((b0.toNat : Nat) : Int) < 248
    · rw [if_pos c3]
      by_cases m1 : moreZ r 0 < 0
      · rw [if_pos m1]; exact .inl rfl
      rw [if_neg m1]
      by_cases m2 : moreZ r 1 < 0
      · rw [if_pos m2]; exact .inl rfl
      rw [if_neg m2]
      by_cases m3 : moreZ r 2 < 0
      · rw [if_pos m3]; exact .inl rfl
      rw [if_neg m3]
      obtain ⟨_, a1, z1, e1⟩ := moreZ_some (l := r) (k := 0) (by omega)
      obtain ⟨_, a2, z2, e2⟩ := moreZ_some (l := r) (k := 1) (by omega)
      obtain ⟨l3, a3, z3, e3⟩ := moreZ_some (l := r) (k := 2) (by omega)
      match r, l3 with
      | b1 :: b2 :: b3 :: r, _ =>
        have k1 := b1.toNat_lt
        have k2 := b2.toNat_lt
        have k3 := b3.toNat_lt
        rw [List.getD_cons_zero] at a1 z1 e1
        rw [List.getD_cons_succ, List.getD_cons_zero] at a2 z2 e2
        rw [List.getD_cons_succ, List.getD_cons_succ, List.getD_cons_zero] at a3 z3 e3
        rw [e1, e2, e3]
        rcases chkZ_or 4 (((((b0.toNat : Int) - 240) * 64 + ((b1.toNat : Int) - 128)) * 64 + ((b2.toNat : Int) - 128)) * 64 + ((b3.toNat : Int) - 128)) with h | ⟨h, hl⟩
        · exact .inl h
        · have hp := len_four h hl
          refine .inr ⟨_, r, ?_, h⟩
          rw [enc_four hp.1 hp.2]
          simp only [List.cons_append, List.nil_append, List.cons.injEq, and_true]
          exact ⟨(u8_eq (by omega)).symm, (u8_eq (by omega)).symm, (u8_eq (by omega)).symm, (u8_eq (by omega)).symm⟩
    rw [if_neg c3]
    exact .inl rfl

theorem atL_err {d : List UInt8} (hd : d ≠ []) (h : errD (decL d)) : atL d = (0, 0) := by
  rcases atL_or d hd with h1 | ⟨p, t, h1, h2⟩
  · exact h1
  · subst h1; exact absurd h (not_err_enc h2 t)

theorem RAt_any (s : ByteArray) (i : Nat) (hi : i < s.size) (hz : s.size ≤ 140737488355328) (w : World) :
    Calls Tryd.prog 52 #[.string s, .int .i64 i] w (AtPost (atL (s.data.toList.drop i)) w) := by
  have h := At_any s i hi hz w
  rw [moreZ_drop, moreZ_drop, moreZ_drop] at h
  have e : (s[i]) = (s.data.toList.drop i).getD 0 0 := by
    rw [← getD_size s i hi]; simp [List.getD, List.getElem?_drop]
  rw [e] at h
  exact h
end Go.Proofs.YtpnjandlpbjddabDoor
