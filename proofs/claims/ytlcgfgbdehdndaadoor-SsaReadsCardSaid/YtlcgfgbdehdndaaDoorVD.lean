/- Contracts of ssa.section and keyed; condition: at most 100,000 bytes. -/
import Derived.Test.YtlcgfgbdehdndaaDoorVC
set_option maxRecDepth 100000
set_option maxHeartbeats 4000000
namespace Go.Proofs.YtlcgfgbdehdndaaDoor
open Go Go.RowKit

theorem get2 (s : ByteArray) (k : Nat) (hk : k < s.size) (c : UInt8) : (s.data.toList[k]? == some c) = decide (s[k] = c) := by
  have h := get_eq s k hk c
  by_cases e : s[k] = c
  · rw [h.2 e, decide_eq_true e]; simp
  · rw [decide_eq_false e, beq_eq_false_iff_ne]; exact fun h2 => e (h.1 h2)
theorem extr (s : ByteArray) (k : Nat) : (s.extract k s.size).data.toList = s.data.toList.drop k := by
  rw [ext_data, List.take_of_length_le (by rw [len_data]; omega)]
theorem ix_cases (c : UInt8) : ∀ l : List UInt8, (c ∉ l ∧ Lib.indexByte l c = -1) ∨ ∃ k : Nat, k < l.length ∧ Lib.indexByte l c = k ∧ l[k]? = some c ∧ ∀ j x, j < k → l[j]? = some x → x ≠ c
  | [] => .inl ⟨by simp, rfl⟩
  | b :: l => by
    by_cases hb : b = c
    · subst hb
      exact .inr ⟨0, by simp, by simp [Lib.indexByte], rfl, fun j x hj => absurd hj (by omega)⟩
    · have hi : Lib.indexByte (b :: l) c = if Lib.indexByte l c == -1 then -1 else Lib.indexByte l c + 1 := by
        rw [Lib.indexByte, if_neg (by simpa using hb)]
      rcases ix_cases c l with ⟨h1, h2⟩ | ⟨k, h1, h2, h3, h4⟩
      · refine .inl ⟨by simp only [List.mem_cons, not_or]; exact ⟨fun e => hb e.symm, h1⟩, ?_⟩
        rw [hi, h2, if_pos (by decide)]
      · refine .inr ⟨k + 1, by simp; omega, ?_, by simpa using h3, fun j x hj hx => ?_⟩
        · rw [hi, h2, if_neg (by simp)]; simp
        · cases j with
          | zero => simp at hx; rw [← hx]; exact hb
          | succ j => exact h4 j x (by omega) (by simpa using hx)
theorem key_le {l : List UInt8} {n : Nat} {c : UInt8} (h : l[n]? = some c) (hc : keyB c = false) : keyN l ≤ n := by
  unfold keyN
  rcases Nat.lt_or_ge n (l.takeWhile keyB).length with h1 | h1
  · have hl : n < l.length := (List.getElem?_eq_some_iff.1 h).1
    have := tw_in keyB l n hl h1
    rw [List.getElem?_eq_getElem hl] at h
    injection h with h
    rw [h, hc] at this
    cases this
  · exact h1
theorem key_ge {l : List UInt8} {n : Nat} (hn : n ≤ l.length) (h : ∀ j x, j < n → l[j]? = some x → keyB x = true) : n ≤ keyN l := by
  rcases Nat.lt_or_ge (keyN l) n with h1 | h1
  · have h2 : (l.takeWhile keyB).length < l.length := by unfold keyN at h1; omega
    have h3 := tw_out keyB l h2
    have h4 : keyB (l[(l.takeWhile keyB).length]) = true := h (keyN l) _ h1 (List.getElem?_eq_getElem h2)
    rw [h3] at h4
    cases h4
  · exact h1
theorem key_at (l : List UInt8) (h : l[keyN l]? = some 58) : ∃ k : Nat, Lib.indexByte l 58 = k ∧ keyN l = k := by
  rcases ix_cases 58 l with ⟨h1, _⟩ | ⟨k, h1, h2, h3, h4⟩
  · exact absurd (List.mem_of_getElem? h) h1
  · refine ⟨k, h2, ?_⟩
    have h5 := key_le h3 (by decide)
    rcases Nat.lt_or_ge (keyN l) k with h6 | h6
    · exact absurd rfl (h4 _ _ h6 h)
    · omega
theorem keyL_no {l : List UInt8} (h : ¬ (l[0]? ≠ some 32 ∧ 1 ≤ keyN l ∧ l[keyN l]? = some 58 ∧ l[keyN l + 1]? = some 32)) : keyL l = none := by unfold keyL; rw [if_neg h]
def kyV (r : Option Nat) : Value := .tuple #[.int .i64 (r.getD 0), .bool r.isSome]
theorem Section_any (s : ByteArray) (hs : s.size ≤ 100000) (w : World) :
    Calls Tryd.prog 28 #[.string s] w fun e w' => e = .returned (.bool (secB s.data.toList)) ∧ w = w' := by
  by_cases h2 : 2 < s.size
  · have h2i : (2 : Int) < s.size := by omega
    have hsec : secB s.data.toList = (decide (s[0] = 91) && decide (Lib.indexByte s.data.toList 93 = (s.size : Int) - 1)) := by
      unfold secB; rw [len_data, decide_eq_true h2, get2 s 0 (by omega)]; rfl
    rw [hsec]
    by_cases h91 : s[0] = 91
    · have e91 : ((s[0].toNat : Int) == 91) = true := by rw [h91]; rfl
      rw [decide_eq_true h91]
      have e1 : IntKind.i64.wrap ((s.size : Int) - 1) = (s.size : Int) - 1 := IntWalk.i64_in _ (by omega)
      have hix : ∀ w, Calls Tryd.prog 39 #[.string s, .int .u8 93] w fun e w' => e = .returned (.int .i64 (Lib.indexByte s.data.toList 93)) ∧ w = w' := fun w => (Tryd.strings_IndexByte s 93 w).mono fun e w' h => ⟨h.1, h.2.symm⟩
      generalize Lib.indexByte s.data.toList 93 = i at *
      clear h91 hsec
      by_cases hi : i = (s.size : Int) - 1
      · have hb : (i == (s.size : Int) - 1) = true := by rw [hi]; simp
        rw [decide_eq_true hi]
        clear hi
        go_enter Tryd.func28, Tryd.ntmps28
        go_wp2_with (go_at_call 39; refine (hix _).mono ?_; rintro e w1 ⟨rfl, rfl⟩)
        go_ret
        exact ⟨rfl, rfl⟩
      · have hb : (i == (s.size : Int) - 1) = false := by simpa using hi
        rw [decide_eq_false hi]
        clear hi
        go_enter Tryd.func28, Tryd.ntmps28
        go_wp2_with (go_at_call 39; refine (hix _).mono ?_; rintro e w1 ⟨rfl, rfl⟩)
        go_ret
        exact ⟨rfl, rfl⟩
    · have e91 : ((s[0].toNat : Int) == 91) = false := by
        rw [beq_eq_false_iff_ne]
        exact fun e => h91 (UInt8.toNat_inj.1 (by show s[0].toNat = 91; omega))
      rw [decide_eq_false h91]
      clear h91 hsec
      go_enter Tryd.func28, Tryd.ntmps28
      go_wp2_with fail
      go_ret
      exact ⟨rfl, rfl⟩
  · have h2i : ¬ (2 : Int) < s.size := by omega
    have hsec : secB s.data.toList = false := by unfold secB; rw [len_data, decide_eq_false h2]; rfl
    rw [hsec]
    go_enter Tryd.func28, Tryd.ntmps28
    go_wp2_with fail
    go_ret
    exact ⟨rfl, rfl⟩
theorem key_class (c : UInt8) : (keyB c = true ∧ ((65 : Int) ≤ c.toNat ∧ (c.toNat : Int) ≤ 90 ∧ ¬ (97 : Int) ≤ c.toNat ∨ (65 : Int) ≤ c.toNat ∧ ¬ (c.toNat : Int) ≤ 90 ∧ (97 : Int) ≤ c.toNat ∧ (c.toNat : Int) ≤ 122 ∨ ¬ (65 : Int) ≤ c.toNat ∧ ¬ (97 : Int) ≤ c.toNat ∧ ((c.toNat : Int) != 32) = false ∨ ¬ (65 : Int) ≤ c.toNat ∧ ¬ (97 : Int) ≤ c.toNat ∧ ((c.toNat : Int) != 32) = true ∧ ¬ (c.toNat : Int) < 48 ∧ ¬ (57 : Int) < c.toNat)) ∨
    (keyB c = false ∧ (¬ (65 : Int) ≤ c.toNat ∧ ¬ (97 : Int) ≤ c.toNat ∧ ((c.toNat : Int) != 32) = true ∧ (c.toNat : Int) < 48 ∨ ¬ (65 : Int) ≤ c.toNat ∧ ¬ (97 : Int) ≤ c.toNat ∧ ((c.toNat : Int) != 32) = true ∧ ¬ (c.toNat : Int) < 48 ∧ (57 : Int) < c.toNat ∨ (65 : Int) ≤ c.toNat ∧ ¬ (c.toNat : Int) ≤ 90 ∧ ¬ (97 : Int) ≤ c.toNat ∧ ((c.toNat : Int) != 32) = true ∧ ¬ (c.toNat : Int) < 48 ∧ (57 : Int) < c.toNat ∨ (65 : Int) ≤ c.toNat ∧ ¬ (c.toNat : Int) ≤ 90 ∧ (97 : Int) ≤ c.toNat ∧ ¬ (c.toNat : Int) ≤ 122 ∧ ((c.toNat : Int) != 32) = true ∧ ¬ (c.toNat : Int) < 48 ∧ (57 : Int) < c.toNat)) := by
  have hk : keyB c = (decide (48 ≤ c.toNat ∧ c.toNat ≤ 57) || decide (65 ≤ c.toNat ∧ c.toNat ≤ 90) || decide (97 ≤ c.toNat ∧ c.toNat ≤ 122) || decide (c.toNat = 32)) := by
    unfold keyB capB digitB
    have : (c == 32) = decide (c.toNat = 32) := by
      by_cases e : c = 32
      · subst e; rfl
      · rw [beq_eq_false_iff_ne.2 e, decide_eq_false]; exact fun h => e (UInt8.toNat_inj.1 h)
    rw [this]
    simp only [Bool.decide_and]
  rw [hk]
  generalize c.toNat = n
  have hb : ((n : Int) != 32) = !decide (n = 32) := by
    by_cases e : n = 32
    · subst e; rfl
    · rw [decide_eq_false e]; simp; omega
  rw [hb]
  by_cases e : n = 32
  · subst e; simp
  · simp [e]; omega
def KyRel (s : ByteArray) (n : Nat) (w0 : World) (i : Value) (wr : World) : Prop := ∃ k : Nat, k ≤ n ∧ i = .int .i64 k ∧ (∀ j x, j < k → s.data.toList[j]? = some x → keyB x = true) ∧ wr = w0
theorem Keyed_any (s : ByteArray) (hs : s.size ≤ 100000) (h0 : 0 < s.size) (w : World) :
    Calls Tryd.prog 29 #[.string s] w fun e w' => e = .returned (kyV (keyL s.data.toList)) ∧ w = w' := by
  have hl0 := len_data s
  have hix : ∀ w, Calls Tryd.prog 39 #[.string s, .int .u8 58] w fun e w' => e = .returned (.int .i64 (Lib.indexByte s.data.toList 58)) ∧ w = w' := fun w => (Tryd.strings_IndexByte s 58 w).mono fun e w' h => ⟨h.1, h.2.symm⟩
  have HN : Hid (keyL s.data.toList = none → ∀ w', w = w' → (fun e w' => e = Ending.returned (kyV (keyL s.data.toList)) ∧ w = w') (.returned (.tuple #[.int .i64 0, .bool false])) w') := Lib.hid fun h w' hw => by simp only; rw [h]; exact ⟨rfl, hw⟩
  have HY : Hid (∀ n : Nat, keyL s.data.toList = some n → ∀ w', w = w' → (fun e w' => e = Ending.returned (kyV (keyL s.data.toList)) ∧ w = w') (.returned (.tuple #[.int .i64 n, .bool true])) w') := Lib.hid fun n h w' hw => by simp only; rw [h]; exact ⟨rfl, hw⟩
  have hat := key_at s.data.toList
  generalize (fun (e : Ending) (w' : World) => e = Ending.returned (kyV (keyL s.data.toList)) ∧ w = w') = P at *
  rcases ix_cases 58 s.data.toList with ⟨h1, h2⟩ | ⟨n, h1, h2, h3, h4⟩
  · rw [h2] at hix
    have Hn := Lib.hid (keyL_no (l := s.data.toList) fun h => h1 (List.mem_of_getElem? h.2.2.1))
    clear hat h1 h2
    go_enter Tryd.func29, Tryd.ntmps29
    go_wp2_with (go_at_call 39; refine (hix _).mono ?_; rintro e w1 ⟨rfl, rfl⟩)
    exact HN.out Hn.out _ rfl
  · rw [h2] at hix
    rw [hl0] at h1
    have hat2 : s.data.toList[keyN s.data.toList]? = some 58 → keyN s.data.toList = n := fun h => by obtain ⟨k, e1, e2⟩ := hat h; rw [h2] at e1; omega
    clear hat h2 h4
    by_cases hn0 : n = 0
    · subst hn0
      have Hn := Lib.hid (keyL_no (l := s.data.toList) fun h => by have := hat2 h.2.2.1; have := h.2.1; omega)
      clear hat2 h3
      go_enter Tryd.func29, Tryd.ntmps29
      go_wp2_with (go_at_call 39; refine (hix _).mono ?_; rintro e w1 ⟨rfl, rfl⟩)
      exact HN.out Hn.out _ rfl
    · have hn1 : ¬ (n : Int) < 1 := by omega
      by_cases h32 : s[0] = 32
      · have e32 : ((s[0].toNat : Int) == 32) = true := by rw [h32]; rfl
        have Hn := Lib.hid (keyL_no (l := s.data.toList) fun h => h.1 ((get_eq s 0 h0 32).2 h32))
        clear hat2 h3 h32
        go_enter Tryd.func29, Tryd.ntmps29
        go_wp2_with (go_at_call 39; refine (hix _).mono ?_; rintro e w1 ⟨rfl, rfl⟩)
        exact HN.out Hn.out _ rfl
      · have e32 : ((s[0].toNat : Int) == 32) = false := by
          rw [beq_eq_false_iff_ne]
          exact fun e => h32 (UInt8.toNat_inj.1 (by show s[0].toNat = 32; omega))
        have h32' : s.data.toList[0]? ≠ some 32 := fun h => h32 ((get_eq s 0 h0 32).1 h)
        have hpx : Lib.hasPrefix (s.extract n s.size).data.toList [58, 32] = decide (s.data.toList[n + 1]? = some 32) := by
          rw [extr]
          have hlt : n < s.data.toList.length := by omega
          rw [List.drop_eq_getElem_cons hlt]
          have e58 : s.data.toList[n] = 58 := by rw [List.getElem?_eq_getElem hlt] at h3; injection h3
          rw [e58]
          unfold Lib.hasPrefix
          rcases Nat.lt_or_ge (n + 1) s.data.toList.length with h5 | h5
          · rw [List.drop_eq_getElem_cons h5, List.getElem?_eq_getElem h5]
            by_cases e : s.data.toList[n + 1] = 32
            · rw [e]; simp
            · rw [decide_eq_false (by simpa using e)]
              simp only [List.isPrefixOf, Bool.and_true, beq_self_eq_true, Bool.true_and]
              exact beq_eq_false_iff_ne.2 (Ne.symm e)
          · rw [List.drop_of_length_le h5, List.getElem?_eq_none h5]; simp [List.isPrefixOf]
        have hpr : ∀ w, Calls Tryd.prog 40 #[.string (s.extract n s.size), .string ⟨#[58, 32]⟩] w fun e w' => e = .returned (.bool (decide (s.data.toList[n + 1]? = some 32))) ∧ w = w' := fun w => by
          rw [← hpx]
          exact (Tryd.strings_HasPrefix (s.extract n s.size) ⟨#[58, 32]⟩ w).mono fun e w' h => ⟨h.1, h.2.symm⟩
        clear hpx h32
        by_cases hp : s.data.toList[n + 1]? = some 32
        · rw [decide_eq_true hp] at hpr
          have H3 := Lib.hid (show s.data.toList[n]? = some 58 ∧ s.data.toList[n + 1]? = some 32 ∧ s.data.toList[0]? ≠ some 32 from ⟨h3, hp, h32'⟩)
          have Hat := Lib.hid hat2
          clear h3 hp h32' hat2
          go_enter Tryd.func29, Tryd.ntmps29
          go_wp2_with (first | (go_at_call 39; refine (hix _).mono ?_; rintro e w1 ⟨rfl, rfl⟩) | (go_at_call 40; refine (hpr _).mono ?_; rintro e w1 ⟨rfl, rfl⟩))
          go_loopw [26] (fun i wr => KyRel s n w i wr) (fun i _ => n - (intOf i).toNat)
          case atStart => exact ⟨0, by omega, rfl, fun j x hj => by omega, rfl⟩
          case round =>
            obtain ⟨k, hk, rfl, hall, rfl⟩ := hrel
            by_cases hlt : k < n
            · have hks : k < s.size := by omega
              have hgk : s.data.toList[k]? = some s[k] := (get_eq s k hks s[k]).2 rfl
              rcases key_class s[k] with ⟨hkb, hcl⟩ | ⟨hkb, hcl⟩
              · have Hall := Lib.hid (show ∀ j x, j < k + 1 → s.data.toList[j]? = some x → keyB x = true from fun j x hj hx => by
                  by_cases e : j = k
                  · subst e; rw [hgk] at hx; injection hx with hx; rw [← hx]; exact hkb
                  · exact hall j x (by omega) hx)
                clear hall hgk hkb
                rcases hcl with ⟨c1, c2, c3⟩ | ⟨c1, c2, c3, c4⟩ | ⟨c1, c2, c3⟩ | ⟨c1, c2, c3, c4, c5⟩
                all_goals
                  go_wp2_with fail
                  go_roundw
                  case rel => exact ⟨k + 1, by omega, by simp, Hall.out, rfl⟩
                  case measure => simp [intOf]; omega
              · have Hn := Lib.hid (keyL_no (l := s.data.toList) fun h => by have h5 := Hat.out h.2.2.1; have h6 := key_le hgk hkb; omega)
                clear hall hgk hkb
                rcases hcl with ⟨c1, c2, c3, c4⟩ | ⟨c1, c2, c3, c4, c5⟩ | ⟨c1, c2, c3, c4, c5, c6⟩ | ⟨c1, c2, c3, c4, c5, c6, c7⟩
                all_goals
                  go_wp2_with fail
                  exact HN.out Hn.out _ rfl
            · obtain rfl : k = n := by omega
              have hge := key_ge (by omega) hall
              have hle := key_le H3.out.1 (show keyB 58 = false by decide)
              have hkn : keyN s.data.toList = k := by omega
              have Hy := Lib.hid (show keyL s.data.toList = some k by
                unfold keyL
                rw [hkn, if_pos ⟨H3.out.2.2, by omega, H3.out.1, H3.out.2.1⟩])
              clear hall hge hle hkn
              go_wp2_with fail
              exact HY.out _ Hy.out _ rfl
        · rw [decide_eq_false hp] at hpr
          have Hn := Lib.hid (keyL_no (l := s.data.toList) fun h => hp (by have := hat2 h.2.2.1; rw [← this]; exact h.2.2.2))
          clear hp hat2 h3 h32'
          go_enter Tryd.func29, Tryd.ntmps29
          go_wp2_with (first | (go_at_call 39; refine (hix _).mono ?_; rintro e w1 ⟨rfl, rfl⟩) | (go_at_call 40; refine (hpr _).mono ?_; rintro e w1 ⟨rfl, rfl⟩))
          exact HN.out Hn.out _ rfl
end Go.Proofs.YtlcgfgbdehdndaaDoor
