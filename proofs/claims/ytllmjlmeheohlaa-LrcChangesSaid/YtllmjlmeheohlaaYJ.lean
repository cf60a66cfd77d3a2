/- Contract of the document's time (chapter 26); condition: at most 100,000 bytes. -/
import Derived.Test.YtllmjlmeheohlaaYI
set_option maxRecDepth 100000
set_option maxHeartbeats 2000000
namespace Go.Proofs.Ytllmjlmeheohlaa
open Go Go.RowKit

theorem like_free (c : UInt8) (hc : digitB c = false) : ∀ s f : List UInt8, likeB s f = true → c ∉ f → c ∉ s
  | [], _, _, _ => by simp
  | a :: s, [], h, _ => by simp [likeB] at h
  | a :: s, b :: f, h, hn => by
    simp only [likeB, Bool.and_eq_true] at h
    simp only [List.mem_cons, not_or] at hn ⊢
    refine ⟨?_, like_free c hc s f h.2 hn.2⟩
    intro e
    have h1 := h.1
    split at h1
    · rw [← e, hc] at h1; cases h1
    · have : a = b := by simpa using h1
      exact hn.1 (e.trans this)
theorem mom_facts {m : List UInt8} (h : momB m = true) : (m.length = 5 ∨ m.length = 8 ∨ m.length = 9) ∧ 93 ∉ m := by
  unfold momB at h
  simp only [Bool.or_eq_true] at h
  rcases h with (h | h) | h
  · exact ⟨.inl (like_len _ _ h), like_free 93 (by decide) _ _ h (by decide)⟩
  · exact ⟨.inr (.inl (like_len _ _ h)), like_free 93 (by decide) _ _ h (by decide)⟩
  · exact ⟨.inr (.inr (like_len _ _ h)), like_free 93 (by decide) _ _ h (by decide)⟩
theorem idx_uniq (c : UInt8) : ∀ (l : List UInt8) (n : Nat), l[n]? = some c → (∀ j, j < n → l[j]? ≠ some c) → Lib.indexByte l c = n
  | [], n, h, _ => by simp at h
  | b :: l, 0, h, _ => by
    simp at h
    subst h
    simp [Lib.indexByte]
  | b :: l, n + 1, h, hn => by
    have h0 : b ≠ c := by simpa using hn 0 (by omega)
    have ih := idx_uniq c l n (by simpa using h) (fun j hj => by simpa using hn (j + 1) (by omega))
    have e : (b == c) = false := by simpa using h0
    unfold Lib.indexByte
    rw [e, ih]
    simp only [Bool.false_eq_true, if_false, beq_iff_eq]
    rw [if_neg (by omega)]
    omega
theorem timeN_at (l : List UInt8) (n : Nat) (h7 : 7 ≤ n) (h11 : n ≤ 11) : timeN l = n ↔ (l.take 1 = [91] ∧ l[n - 1]? = some 93 ∧ momB ((l.take (n - 1)).drop 1) = true) := by
  rw [timeN_eq]
  constructor
  · intro h
    split at h
    · rename_i hc
      obtain ⟨a, b, c⟩ := hc
      have hi := (idx_get 93 (l.take 11) b).1
      have hp := tmI_pos a b
      have e : (tmI l).toNat = n - 1 := by omega
      have e2 : (Lib.indexByte (l.take 11) 93).toNat = n - 1 := e
      rw [e2, List.getElem?_take_of_lt (by omega)] at hi
      rw [e] at c
      exact ⟨a, hi, c⟩
    · omega
  · rintro ⟨a, b, c⟩
    obtain ⟨hl, hno⟩ := mom_facts c
    have hi : tmI l = ((n - 1 : Nat) : Int) := by
      refine idx_uniq 93 (l.take 11) (n - 1) (by rw [List.getElem?_take_of_lt (by omega)]; exact b) (fun j hj e => ?_)
      rw [List.getElem?_take_of_lt (by omega)] at e
      cases j with
      | zero =>
        cases l with
        | nil => simp at a
        | cons x l => simp at a e; rw [a] at e; exact absurd e (by decide)
      | succ j =>
        apply hno
        have : ((l.take (n - 1)).drop 1)[j]? = some 93 := by
          rw [List.getElem?_drop, List.getElem?_take_of_lt (by omega), Nat.add_comm]
          exact e
        exact List.mem_of_getElem? this
    have e : (tmI l).toNat = n - 1 := by omega
    rw [e, if_pos ⟨a, by omega, c⟩]
    omega
theorem timeN_rng (l : List UInt8) : timeN l = 0 ∨ (7 ≤ timeN l ∧ timeN l ≤ 11 ∧ timeN l ≤ l.length) := by
  by_cases h : l.take 1 = [91] ∧ 0 ≤ tmI l ∧ momB ((l.take (tmI l).toNat).drop 1) = true
  · right
    rw [timeN_eq, if_pos h]
    obtain ⟨a, b, c⟩ := h
    have hp := tmI_pos a b
    have hm := (mom_facts c).1
    rw [List.length_drop, List.length_take] at hm
    omega
  · left
    rw [timeN_eq, if_neg h]
def TmRel (l : List UInt8) (w0 : World) (i : Value) (wr : World) : Prop := ∃ n : Nat, 7 ≤ n ∧ n ≤ 12 ∧ i = .int .i64 n ∧ (∀ j, 7 ≤ j → j < n → timeN l ≠ j) ∧ Below w0.heap.size w0 wr
theorem get_eq (s : ByteArray) (i : Nat) (h : i < s.size) (c : UInt8) : s.data.toList[i]? = some c ↔ s[i] = c := by
  rw [List.getElem?_eq_getElem (by rw [len_data]; exact h)]
  constructor
  · intro e; exact Option.some.inj e
  · intro e; exact congrArg some e
theorem take1_eq (s : ByteArray) (h : 0 < s.size) (c : UInt8) : s.data.toList.take 1 = [c] ↔ s[0] = c := by
  rw [← get_eq s 0 h c]
  have hl := len_data s
  generalize s.data.toList = l at *
  cases l with
  | nil => simp at hl; omega
  | cons b l => simp
theorem eq_int {a : UInt8} {c : UInt8} (h : a = c) : ((a.toNat : Int) == (c.toNat : Int)) = true := by rw [h]; simp
theorem ne_int2 {a : UInt8} {c : UInt8} (h : a ≠ c) : ((a.toNat : Int) == (c.toNat : Int)) = false := by
  rw [beq_eq_false_iff_ne]
  have := u8_ne h
  omega
theorem time_any (s : ByteArray) (hs : s.size ≤ 100000) (w : World) :
    Calls Try.prog 32 #[.string s] w fun e w' => e = .returned (.int .i64 (timeN s.data.toList)) ∧ Below w.heap.size w w' := by
  have hlen := len_data s
  go_enter Try.func32, Try.ntmps32
  go_wp2_with fail
  go_loopw [3] (fun i wr => TmRel s.data.toList w i wr) (fun i _ => 12 - (intOf i).toNat)
  case atStart => exact ⟨7, by omega, by omega, rfl, fun j h1 h2 => by omega, Below.refl _ _⟩
  case round =>
    obtain ⟨n, h7, h12, rfl, hno, hb⟩ := hrel
    have Hno := Lib.hid hno
    clear hno
    by_cases hn : n ≤ 11
    · have hat := timeN_at s.data.toList n h7 hn
      have hnext : timeN s.data.toList ≠ n → ∀ j, 7 ≤ j → j < n + 1 → timeN s.data.toList ≠ j := fun h j h1 h2 => by
        by_cases e : j = n
        · rw [e]; exact h
        · exact Hno.out j h1 (by omega)
      by_cases hsz : n ≤ s.size
      · have hg0 := take1_eq s (by omega) 91
        have hg1 := get_eq s (n - 1) (by omega) 93
        have en : (n : Int) - 1 = ((n - 1 : Nat) : Int) := by omega
        have hmom := fun w => RMoment_any (s.extract 1 (n - 1)) (by simp; omega) w
        rw [ext_data] at hmom
        have hen : ((n : Int) - 1).toNat = n - 1 := by omega
        by_cases h0 : s[0] = 91
        · have c0 : ((s[0].toNat : Int) == 91) = true := eq_int h0
          by_cases h1 : s[n - 1] = 93
          · have c1 : ((s[n - 1].toNat : Int) == 93) = true := eq_int h1
            cases hm : momB ((s.data.toList.take (n - 1)).drop 1)
            · have Hn := Lib.hid (hnext fun e => by have := (hat.1 e).2.2; rw [hm] at this; cases this)
              rw [hm] at hmom
              clear hat hnext hg0 hg1 h0 h1 hm
              go_wp2_with (go_at_call 13; refine (hmom _).mono ?_; rintro e w2 ⟨rfl, hb2⟩)
              go_roundw
              case rel => exact ⟨n + 1, by omega, by omega, by go_num, Hn.out, hb.trans (hb2.mono hb.size)⟩
              case measure => simp [intOf]; omega
            · have Hr := Lib.hid (hat.2 ⟨hg0.2 h0, hg1.2 h1, hm⟩)
              rw [hm] at hmom
              clear hat hnext hg0 hg1 h0 h1 hm
              go_wp2_with (go_at_call 13; refine (hmom _).mono ?_; rintro e w2 ⟨rfl, hb2⟩)
              go_ret
              rw [Hr.out]
              exact ⟨rfl, hb.trans (hb2.mono hb.size)⟩
          · have c1 : ((s[n - 1].toNat : Int) == 93) = false := ne_int2 h1
            have Hn := Lib.hid (hnext fun e => h1 (hg1.1 (hat.1 e).2.1))
            clear hat hnext hg0 hg1 h0 h1 hmom
            go_wp2_with fail
            go_roundw
            case rel => exact ⟨n + 1, by omega, by omega, by go_num, Hn.out, hb⟩
            case measure => simp [intOf]; omega
        · have c0 : ((s[0].toNat : Int) == 91) = false := ne_int2 h0
          have Hn := Lib.hid (hnext fun e => h0 (hg0.1 (hat.1 e).1))
          clear hat hnext hg0 hg1 h0 hmom
          go_wp2_with fail
          go_roundw
          case rel => exact ⟨n + 1, by omega, by omega, by go_num, Hn.out, hb⟩
          case measure => simp [intOf]; omega
      · have Hn := Lib.hid (hnext fun e => by have := timeN_rng s.data.toList; omega)
        clear hat hnext
        go_wp2_with fail
        go_roundw
        case rel => exact ⟨n + 1, by omega, by omega, by go_num, Hn.out, hb⟩
        case measure => simp [intOf]; omega
    · have Hr := Lib.hid (show timeN s.data.toList = 0 by
        rcases timeN_rng s.data.toList with h | h
        · exact h
        · exact absurd rfl (Hno.out _ h.1 (by omega)))
      go_wp2_with fail
      go_ret
      rw [Hr.out]
      exact ⟨rfl, hb⟩
end Go.Proofs.Ytllmjlmeheohlaa
