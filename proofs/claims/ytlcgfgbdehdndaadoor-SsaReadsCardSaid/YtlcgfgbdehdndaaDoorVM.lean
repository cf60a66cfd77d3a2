/- Contracts of the document's Letter, Key, Trim, section (chapter 25); condition: at most 1,000,000 bytes. -/
import Derived.Test.YtlcgfgbdehdndaaDoorVJ
set_option maxRecDepth 100000
set_option maxHeartbeats 2000000
namespace Go.Proofs.YtlcgfgbdehdndaaDoor
open Go Go.RowKit

theorem RCap_any (c : UInt8) (w : World) :
    Calls Tryd.prog 44 #[.int .u8 (c.toNat : Int)] w fun e w' => e = .returned (.bool (capB c)) ∧ w = w' := by
  have hd := fun w => RDigit_any c w
  have h : capB c = (digitB c || (decide ((65 : Int) ≤ c.toNat) && decide ((c.toNat : Int) ≤ 90))) := by
    unfold capB; congr 1; congr 1 <;> (rw [decide_eq_decide]; omega)
  rw [h]
  generalize digitB c = d at *
  generalize c.toNat = n at *
  go_enter Tryd.func44, Tryd.ntmps44
  go_wp2_with (go_at_call 45; refine (hd _).mono ?_; rintro e w1 ⟨rfl, rfl⟩)
  all_goals go_ret
  all_goals refine ⟨ret_bool ?_, rfl⟩
  all_goals (first | (simp_all; done) | (simp_all; omega) | (simp <;> omega))
def letB (c : UInt8) (first : Bool) : Bool := capB c || (decide (97 ≤ c.toNat) && decide (c.toNat ≤ 122)) || (c == 32 && !first)
theorem Letter_any (c : UInt8) (first : Bool) (w : World) :
    Calls Tryd.prog 32 #[.int .u8 (c.toNat : Int), .bool first] w fun e w' => e = .returned (.bool (letB c first)) ∧ w = w' := by
  have hd := fun w => RCap_any c w
  have h : letB c first = (capB c || (decide ((97 : Int) ≤ c.toNat) && decide ((c.toNat : Int) ≤ 122)) || (decide ((c.toNat : Int) = 32) && !first)) := by
    unfold letB
    have e1 : (c == 32) = decide ((c.toNat : Int) = 32) := by
      by_cases e : c = 32
      · subst e; rfl
      · rw [beq_eq_false_iff_ne.2 e, decide_eq_false]; exact fun h => e (UInt8.toNat_inj.1 (by show c.toNat = 32; omega))
    rw [e1]
    congr 1; congr 1; congr 1 <;> (rw [decide_eq_decide]; omega)
  rw [h]
  generalize capB c = d at *
  generalize c.toNat = n at *
  cases d <;> cases first
  all_goals
    go_enter Tryd.func32, Tryd.ntmps32
    go_wp2_with (go_at_call 44; refine (hd _).mono ?_; rintro e w1 ⟨rfl, rfl⟩)
  all_goals go_ret
  all_goals refine ⟨ret_bool ?_, rfl⟩
  all_goals (first | (simp_all; done) | (simp_all; omega) | (simp <;> omega))
theorem let_key (c : UInt8) (first : Bool) : letB c first = (keyB c && !(first && c == 32)) := by
  unfold letB keyB
  cases first
  · simp
  · by_cases e : c = 32
    · subst e; decide
    · simp [beq_eq_false_iff_ne.2 e]
def KyN (r : Option Nat) : Nat := r.getD 0
def RkRel (s : ByteArray) (w0 : World) (i : Value) (wr : World) : Prop := ∃ k : Nat, k ≤ s.size ∧ i = .int .i64 k ∧ (∀ j x, j < k → s.data.toList[j]? = some x → keyB x = true) ∧ (0 < k → s.data.toList[0]? ≠ some 32) ∧ wr = w0
theorem RKey_any (s : ByteArray) (hs : s.size ≤ 1000000) (w : World) :
    Calls Tryd.prog 14 #[.string s] w fun e w' => e = .returned (.int .i64 (KyN (keyL s.data.toList))) ∧ w = w' := by
  have hl0 := len_data s
  have HN : Hid (keyL s.data.toList = none → ∀ w', w = w' → (fun e w' => e = Ending.returned (.int .i64 (KyN (keyL s.data.toList))) ∧ w = w') (.returned (.int .i64 0)) w') := Lib.hid fun h w' hw => by simp only; rw [h]; exact ⟨rfl, hw⟩
  have HY : Hid (∀ n : Nat, keyL s.data.toList = some n → ∀ w', w = w' → (fun e w' => e = Ending.returned (.int .i64 (KyN (keyL s.data.toList))) ∧ w = w') (.returned (.int .i64 n)) w') := Lib.hid fun n h w' hw => by simp only; rw [h]; exact ⟨rfl, hw⟩
  generalize (fun (e : Ending) (w' : World) => e = Ending.returned (.int .i64 (KyN (keyL s.data.toList))) ∧ w = w') = P at *
  go_enter Tryd.func14, Tryd.ntmps14
  go_wp2_with fail
  go_loopw [3] (fun i wr => RkRel s w i wr) (fun i _ => s.size - (intOf i).toNat)
  case atStart => exact ⟨0, by omega, rfl, fun j x hj => by omega, fun h => by omega, rfl⟩
  case round =>
    obtain ⟨k, hk, rfl, hall, h32, rfl⟩ := hrel
    have hge := key_ge (by omega) hall
    -- where the letters end
    have hfin : (k < s.size → ∀ x, s.data.toList[k]? = some x → letB x (decide (k = 0)) = false) → ((k + 1 < s.size ∧ s.data.toList[k]? = some 58 ∧ s.data.toList[k + 1]? = some 32) → keyL s.data.toList = if k = 0 then none else some k) ∧ (¬ (k + 1 < s.size ∧ s.data.toList[k]? = some 58 ∧ s.data.toList[k + 1]? = some 32) → keyL s.data.toList = none) := by
      intro hstop
      have hor : k = keyN s.data.toList ∨ s.data.toList[0]? = some 32 := by
        by_cases hlt : k < s.size
        · have hx : s.data.toList[k]? = some s[k] := (get_eq s k hlt s[k]).2 rfl
          have h1 := hstop hlt _ hx
          rw [let_key] at h1
          by_cases hkb : keyB s[k] = true
          · rw [hkb] at h1
            simp only [Bool.true_and, Bool.not_eq_false', Bool.and_eq_true, decide_eq_true_eq, beq_iff_eq] at h1
            obtain ⟨h2, h3⟩ := h1
            subst h2
            exact .inr (by rw [hx, h3])
          · have h2 : keyB s[k] = false := by simpa using hkb
            have := key_le hx h2
            exact .inl (by omega)
        · have h1 : keyN s.data.toList ≤ s.data.toList.length := by unfold keyN; exact tw_le _ _
          exact .inl (by omega)
      have hkl : keyL s.data.toList = if s.data.toList[0]? ≠ some 32 ∧ 1 ≤ keyN s.data.toList ∧ s.data.toList[keyN s.data.toList]? = some 58 ∧ s.data.toList[keyN s.data.toList + 1]? = some 32 then some (keyN s.data.toList) else none := rfl
      rcases hor with hor | hor
      · rw [← hor] at hkl
        refine ⟨fun ⟨a, b, c⟩ => ?_, fun hn => ?_⟩
        · rw [hkl]
          by_cases h0 : k = 0
          · rw [if_pos h0, if_neg (by omega)]
          · rw [if_neg h0, if_pos ⟨h32 (by omega), by omega, b, c⟩]
        · rw [hkl, if_neg]
          rintro ⟨_, _, b, c⟩
          refine hn ⟨?_, b, c⟩
          have := (List.getElem?_eq_some_iff.1 c).1
          omega
      · have hno : keyL s.data.toList = none := by rw [hkl, if_neg (fun h => h.1 hor)]
        have hk0 : k = 0 := by
          rcases Nat.eq_zero_or_pos k with h | h
          · exact h
          · exact absurd hor (h32 h)
        exact ⟨fun _ => by rw [if_pos hk0, hno], fun _ => hno⟩
    have Hfin := Lib.hid hfin
    clear hfin hge
    by_cases hlt : k < s.size
    · have hgk : s.data.toList[k]? = some s[k] := (get_eq s k hlt s[k]).2 rfl
      have hlet := fun W => Letter_any s[k] (decide (k = 0)) W
      cases hlv : letB s[k] (decide (k = 0)) with
      | true =>
        rw [hlv] at hlet
        have hkey : keyB s[k] = true ∧ (k = 0 → s[k] ≠ 32) := by
          rw [let_key] at hlv
          simp only [Bool.and_eq_true, Bool.not_eq_true'] at hlv
          refine ⟨hlv.1, fun h0 h32' => ?_⟩
          have := hlv.2
          rw [h32', decide_eq_true h0] at this
          cases this
        have Hall := Lib.hid (show ∀ j x, j < k + 1 → s.data.toList[j]? = some x → keyB x = true from fun j x hj hx => by
          by_cases e : j = k
          · subst e; rw [hgk] at hx; injection hx with hx; rw [← hx]; exact hkey.1
          · exact hall j x (by omega) hx)
        have H32 := Lib.hid (show 0 < k + 1 → s.data.toList[0]? ≠ some 32 from fun _ => by
          rcases Nat.eq_zero_or_pos k with h | h
          · subst h; rw [hgk]; intro e; injection e with e; exact hkey.2 rfl e
          · exact h32 h)
        clear hall h32 hkey hlv hgk
        by_cases h0 : k = 0
        · have b0 : ((k : Int) == 0) = true := by subst h0; rfl
          rw [decide_eq_true h0] at hlet
          clear h0
          go_wp2_with (go_at_call 32; refine (hlet _).mono ?_; rintro e w1 ⟨rfl, rfl⟩)
          go_roundw
          case rel => exact ⟨k + 1, by omega, by simp, Hall.out, H32.out, rfl⟩
          case measure => simp [intOf]; omega
        · have b0 : ((k : Int) == 0) = false := by simpa using h0
          rw [decide_eq_false h0] at hlet
          go_wp2_with (go_at_call 32; refine (hlet _).mono ?_; rintro e w1 ⟨rfl, rfl⟩)
          go_roundw
          case rel => exact ⟨k + 1, by omega, by simp, Hall.out, H32.out, rfl⟩
          case measure => simp [intOf]; omega
      | false =>
        rw [hlv] at hlet
        obtain ⟨f1, f2⟩ := Hfin.out (fun _ x hx => by rw [hgk] at hx; injection hx with hx; rw [← hx]; exact hlv)
        have F1 := Lib.hid f1
        have F2 := Lib.hid f2
        have e58 := get_eq s k hlt 58
        clear f1 f2 hall h32 hlv hgk Hfin
        have hb0 : ∃ b : Bool, decide (k = 0) = b ∧ ((k : Int) == 0) = b := by
          by_cases h0 : k = 0
          · exact ⟨true, decide_eq_true h0, by subst h0; rfl⟩
          · exact ⟨false, decide_eq_false h0, by simpa using h0⟩
        obtain ⟨b, hb1, hb2⟩ := hb0
        rw [hb1] at hlet
        clear hb1
        by_cases h1 : k + 1 < s.size
        · have h1i : (k : Int) + 1 < s.size := by omega
          have e32 := get_eq s (k + 1) h1 32
          by_cases h58 : s[k] = 58
          · have d58 : ((s[k].toNat : Int) == 58) = true := by rw [h58]; rfl
            by_cases hs32 : s[k + 1] = 32
            · have d32 : ((s[k + 1].toNat : Int) == 32) = true := by rw [hs32]; rfl
              have Hr := Lib.hid (F1.out ⟨h1, e58.2 h58, e32.2 hs32⟩)
              clear e58 e32 h58 hs32
              go_wp2_with (go_at_call 32; refine (hlet _).mono ?_; rintro e w1 ⟨rfl, rfl⟩)
              by_cases h0 : k = 0
              · subst h0
                exact HN.out (by rw [Hr.out]; rfl) _ rfl
              · exact HY.out k (by rw [Hr.out, if_neg h0]) _ rfl
            · have d32 : ((s[k + 1].toNat : Int) == 32) = false := by
                rw [beq_eq_false_iff_ne]
                exact fun e => hs32 (UInt8.toNat_inj.1 (by show s[k + 1].toNat = 32; omega))
              have Hr := Lib.hid (F2.out (fun h => hs32 (e32.1 h.2.2)))
              clear e58 e32 h58 hs32
              go_wp2_with (go_at_call 32; refine (hlet _).mono ?_; rintro e w1 ⟨rfl, rfl⟩)
              exact HN.out Hr.out _ rfl
          · have d58 : ((s[k].toNat : Int) == 58) = false := by
              rw [beq_eq_false_iff_ne]
              exact fun e => h58 (UInt8.toNat_inj.1 (by show s[k].toNat = 58; omega))
            have Hr := Lib.hid (F2.out (fun h => h58 (e58.1 h.2.1)))
            clear e58 e32 h58
            go_wp2_with (go_at_call 32; refine (hlet _).mono ?_; rintro e w1 ⟨rfl, rfl⟩)
            exact HN.out Hr.out _ rfl
        · have h1i : ¬ (k : Int) + 1 < s.size := by omega
          have Hr := Lib.hid (F2.out (fun h => h1 h.1))
          clear e58
          go_wp2_with (go_at_call 32; refine (hlet _).mono ?_; rintro e w1 ⟨rfl, rfl⟩)
          exact HN.out Hr.out _ rfl
    · obtain ⟨_, f2⟩ := Hfin.out (fun h => absurd h hlt)
      have Hr := Lib.hid (f2 (fun h => by omega))
      clear f2 hall h32 Hfin
      go_wp2_with fail
      exact HN.out Hr.out _ rfl
def RsRel (s : ByteArray) (w0 : World) (i : Value) (wr : World) : Prop := ∃ k : Nat, k ≤ s.size ∧ i = .int .i64 k ∧ (∀ j x, j < k → s.data.toList[j]? = some x → x ≠ 93) ∧ wr = w0
theorem ix_at {l : List UInt8} {c : UInt8} {k : Nat} (h : l[k]? = some c) (hno : ∀ j x, j < k → l[j]? = some x → x ≠ c) : Lib.indexByte l c = k := by
  rcases ix_cases c l with ⟨h1, _⟩ | ⟨n, _, h2, h3, h4⟩
  · exact absurd (List.mem_of_getElem? h) h1
  · rcases Nat.lt_trichotomy n k with h5 | h5 | h5
    · exact absurd rfl (hno n c h5 h3)
    · rw [h2, h5]
    · exact absurd rfl (h4 k c h5 h)
theorem ix_none {l : List UInt8} {c : UInt8} (hno : ∀ j x, j < l.length → l[j]? = some x → x ≠ c) : Lib.indexByte l c = -1 := by
  rcases ix_cases c l with ⟨_, h1⟩ | ⟨n, h1, _, h3, _⟩
  · exact h1
  · exact absurd rfl (hno n c h1 h3)
theorem RSection_any (s : ByteArray) (hs : s.size ≤ 1000000) (w : World) :
    Calls Tryd.prog 17 #[.string s] w fun e w' => e = .returned (.bool (secB s.data.toList)) ∧ w = w' := by
  have hl0 := len_data s
  have HP : Hid (∀ b w', secB s.data.toList = b → w = w' → (fun e w' => e = Ending.returned (.bool (secB s.data.toList)) ∧ w = w') (.returned (.bool b)) w') := Lib.hid fun b w' h hw => by rw [h]; exact ⟨rfl, hw⟩
  generalize (fun (e : Ending) (w' : World) => e = Ending.returned (.bool (secB s.data.toList)) ∧ w = w') = P at *
  by_cases h3 : (s.size : Int) < 3
  · have hr := Lib.hid (show secB s.data.toList = false by unfold secB; rw [hl0, decide_eq_false (by omega)]; rfl)
    go_enter Tryd.func17, Tryd.ntmps17
    go_wp2_with fail
    exact HP.out _ _ hr.out rfl
  · have h0 : 0 < s.size := by omega
    by_cases h91 : s[0] = 91
    · have e91 : ((s[0].toNat : Int) != 91) = false := by rw [h91]; rfl
      have hsec := Lib.hid (show secB s.data.toList = decide (Lib.indexByte s.data.toList 93 = (s.size : Int) - 1) by
        unfold secB; rw [hl0, decide_eq_true (by omega), get2 s 0 h0, decide_eq_true h91]; rfl)
      clear h91
      go_enter Tryd.func17, Tryd.ntmps17
      go_wp2_with fail
      go_loopw [3] (fun i wr => RsRel s w i wr) (fun i _ => s.size - (intOf i).toNat)
      case atStart => exact ⟨0, by omega, rfl, fun j x hj => by omega, rfl⟩
      case round =>
        obtain ⟨k, hk, rfl, hno, rfl⟩ := hrel
        by_cases hlt : k < s.size
        · have hgk : s.data.toList[k]? = some s[k] := (get_eq s k hlt s[k]).2 rfl
          by_cases h93 : s[k] = 93
          · have e93 : ((s[k].toNat : Int) == 93) = true := by rw [h93]; rfl
            have hix := ix_at (hgk.trans (by rw [h93])) hno
            have e1 : IntKind.i64.wrap ((s.size : Int) - 1) = (s.size : Int) - 1 := IntWalk.i64_in _ (by omega)
            by_cases hend : (k : Int) = (s.size : Int) - 1
            · have d1 : ((k : Int) == (s.size : Int) - 1) = true := by rw [hend]; simp
              have hr := Lib.hid (show secB s.data.toList = true by rw [hsec.out, hix, decide_eq_true hend])
              clear hno hgk h93 hix hend
              go_wp2_with fail
              exact HP.out _ _ hr.out rfl
            · have d1 : ((k : Int) == (s.size : Int) - 1) = false := by simpa using hend
              have hr := Lib.hid (show secB s.data.toList = false by rw [hsec.out, hix, decide_eq_false hend])
              clear hno hgk h93 hix hend
              go_wp2_with fail
              exact HP.out _ _ hr.out rfl
          · have e93 : ((s[k].toNat : Int) == 93) = false := by
              rw [beq_eq_false_iff_ne]
              exact fun e => h93 (UInt8.toNat_inj.1 (by show s[k].toNat = 93; omega))
            have Hno := Lib.hid (show ∀ j x, j < k + 1 → s.data.toList[j]? = some x → x ≠ 93 from fun j x hj hx => by
              by_cases e : j = k
              · subst e; rw [hgk] at hx; injection hx with hx; rw [← hx]; exact h93
              · exact hno j x (by omega) hx)
            clear hno hgk h93
            go_wp2_with fail
            go_roundw
            case rel => exact ⟨k + 1, by omega, by simp, Hno.out, rfl⟩
            case measure => simp [intOf]; omega
        · have hix := ix_none (l := s.data.toList) (c := 93) (fun j x hj => hno j x (by omega))
          have hr := Lib.hid (show secB s.data.toList = false by rw [hsec.out, hix, decide_eq_false (by omega)])
          clear hno hix
          go_wp2_with fail
          exact HP.out _ _ hr.out rfl
    · have e91 : ((s[0].toNat : Int) != 91) = true := by
        rw [bne_iff_ne]
        exact fun e => h91 (UInt8.toNat_inj.1 (by show s[0].toNat = 91; omega))
      have hr := Lib.hid (show secB s.data.toList = false by unfold secB; rw [get2 s 0 h0, decide_eq_false h91]; simp)
      clear h91
      go_enter Tryd.func17, Tryd.ntmps17
      go_wp2_with fail
      exact HP.out _ _ hr.out rfl
end Go.Proofs.YtlcgfgbdehdndaaDoor
