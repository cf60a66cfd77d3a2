/- Contracts of line.digit, Like, Capitals, of the document's Digit and Like; condition: less than 2^47 bytes. -/
import Derived.Test.YtlcgfgbdehdndaaDoorYA
import Derived.Test.YtlcgfgbdehdndaaDoorRows
import Derived.Test.YtlcgfgbdehdndaaDoorShelf
import Derived.Test.YtlcgfgbdehdndaaDoorLaws
import Derived.WalkKit
import Derived.WalkSpells
import Derived.Outline
import Derived.Deep.DeepFit
import Derived.Deep.QuietTactic
import Derived.BigQuiet
set_option maxRecDepth 100000
set_option maxHeartbeats 1000000
namespace Go.Proofs.YtlcgfgbdehdndaaDoor
open Go Go.RowKit

theorem Digit_any (c : UInt8) (w : World) :
    Calls Tryd.prog 54 #[.int .u8 (c.toNat : Int)] w fun e w' => e = .returned (.bool (digitB c)) ∧ w = w' := by
  have h : digitB c = (decide ((48 : Int) ≤ c.toNat) && decide ((c.toNat : Int) ≤ 57)) := by
    unfold digitB; congr 1 <;> (rw [decide_eq_decide]; omega)
  rw [h]
  generalize c.toNat = n
  go_enter Tryd.func54, Tryd.ntmps54
  go_wp2
  all_goals go_ret
  all_goals refine ⟨ret_bool ?_, rfl⟩
  all_goals simp <;> omega
theorem RDigit_any (c : UInt8) (w : World) :
    Calls Tryd.prog 45 #[.int .u8 (c.toNat : Int)] w fun e w' => e = .returned (.bool (digitB c)) ∧ w = w' := by
  have h : digitB c = (decide ((48 : Int) ≤ c.toNat) && decide ((c.toNat : Int) ≤ 57)) := by
    unfold digitB; congr 1 <;> (rw [decide_eq_decide]; omega)
  rw [h]
  generalize c.toNat = n
  go_enter Tryd.func45, Tryd.ntmps45
  go_wp2
  all_goals go_ret
  all_goals refine ⟨ret_bool ?_, rfl⟩
  all_goals simp <;> omega
def LikeRel (s f : ByteArray) (i : Value) : Prop := ∃ k : Nat, k ≤ f.size ∧ i = .int .i64 k ∧ likeB s.data.toList f.data.toList = likeB (s.data.toList.drop k) (f.data.toList.drop k)
theorem like_no (s f : ByteArray) (h : s.size ≠ f.size) : likeB s.data.toList f.data.toList = false := by
  rw [Bool.eq_false_iff]
  intro e
  have := like_len _ _ e
  rw [len_data, len_data] at this
  exact h this
theorem like_end (s f : ByteArray) (h : s.size = f.size) : likeB (s.data.toList.drop f.size) (f.data.toList.drop f.size) = true := by
  rw [List.drop_of_length_le (by rw [len_data]; omega), List.drop_of_length_le (by rw [len_data]; omega)]
  rfl
theorem Like_any (s f : ByteArray) (hs : s.size ≤ 140737488355328) (w : World) :
    Calls Tryd.prog 37 #[.string s, .string f] w fun e w' => e = .returned (.bool (likeB s.data.toList f.data.toList)) ∧ Below w.heap.size w w' := by
  by_cases hne : s.size = f.size
  · go_enter Tryd.func37, Tryd.ntmps37
    have hE := Lib.hid (like_end s f hne)
    have Hne := Lib.hid hne
    have hle : f.size ≤ 140737488355328 := by omega
    have hc : ((s.size : Int) != (f.size : Int)) = false := by simp [hne]
    clear hne
    go_wp2_with fail
    go_loopw [13] (fun i wr => LikeRel s f i ∧ Below w.heap.size w wr) (fun i _ => f.size - (intOf i).toNat)
    case atStart => exact ⟨⟨0, by omega, rfl, by simp⟩, Below.refl _ _⟩
    case round =>
      obtain ⟨⟨k, hk, rfl, heq⟩, hb⟩ := hrel
      by_cases hlt : k < f.size
      · have hks : k < s.size := by have := Hne.out; omega
        have hst : likeB s.data.toList f.data.toList = ((if f[k] = 48 then digitB s[k] else s[k] == f[k]) && likeB (s.data.toList.drop (k + 1)) (f.data.toList.drop (k + 1))) := by
          rw [heq, drop_at s k hks, drop_at f k hlt]; rfl
        have Hst := Lib.hid hst
        clear heq hst
        have hdg := fun w => Digit_any s[k] w
        have u1 := s[k].toNat_lt
        have u2 := f[k].toNat_lt
        by_cases h48 : f[k] = 48
        · have e48 : ((f[k].toNat : Int) == 48) = true := by rw [h48]; rfl
          cases hd : digitB s[k]
          · rw [hd] at hdg
            have hres := Lib.hid (show likeB s.data.toList f.data.toList = false by rw [Hst.out, if_pos h48, hd]; rfl)
            clear Hst
            go_wp2_with (first | (go_at_call 54; refine (hdg _).mono ?_; rintro e w1 ⟨rfl, rfl⟩))
            go_ret
            rw [hres.out]
            exact ⟨rfl, hb⟩
          · rw [hd] at hdg
            have hres := Lib.hid (show likeB s.data.toList f.data.toList = likeB (s.data.toList.drop (k + 1)) (f.data.toList.drop (k + 1)) by rw [Hst.out, if_pos h48, hd]; rfl)
            clear Hst
            go_wp2_with (first | (go_at_call 54; refine (hdg _).mono ?_; rintro e w1 ⟨rfl, rfl⟩))
            go_roundw
            case rel => exact ⟨⟨k + 1, by omega, by go_num, hres.out⟩, hb⟩
            case measure => simp [intOf]; omega
        · have e48 : ((f[k].toNat : Int) == 48) = false := by
            rw [beq_eq_false_iff_ne]
            intro e
            exact h48 (UInt8.toNat_inj.1 (by show f[k].toNat = 48; omega))
          by_cases hq : s[k] = f[k]
          · have hres := Lib.hid (show likeB s.data.toList f.data.toList = likeB (s.data.toList.drop (k + 1)) (f.data.toList.drop (k + 1)) by rw [Hst.out, if_neg h48, hq]; simp)
            have hqn : ((s[k].toNat : Int) != (f[k].toNat : Int)) = false := by rw [hq]; simp
            clear Hst hdg
            go_wp2_with fail
            go_quiet (fail)
            go_wp2_with fail
            go_roundw
            case rel => exact ⟨⟨k + 1, by omega, by go_num, hres.out⟩, below_drewN hb _⟩
            case measure => simp [intOf]; omega
          · have hres := Lib.hid (show likeB s.data.toList f.data.toList = false by rw [Hst.out, if_neg h48, beq_eq_false_iff_ne.2 hq]; rfl)
            have hqn : ((s[k].toNat : Int) != (f[k].toNat : Int)) = true := by
              rw [bne_iff_ne]
              intro e
              exact hq (UInt8.toNat_inj.1 (by omega))
            clear Hst hdg
            go_wp2_with fail
            go_quiet (fail)
            go_wp2_with fail
            go_ret
            rw [hres.out]
            exact ⟨rfl, below_drewN hb _⟩
      · have hk2 : k = f.size := by omega
        subst hk2
        have hres := Lib.hid (show likeB s.data.toList f.data.toList = true by rw [heq]; exact hE.out)
        clear heq hlt
        go_wp2_with fail
        go_ret
        rw [hres.out]
        exact ⟨rfl, hb⟩
  · have hr := Lib.hid (like_no s f hne)
    have hc : ((s.size : Int) != (f.size : Int)) = true := by simp; omega
    go_enter Tryd.func37, Tryd.ntmps37
    go_wp2_with fail
    go_ret
    rw [hr.out]
    exact ⟨rfl, Below.refl _ _⟩
theorem RLike_any (s f : ByteArray) (hs : s.size ≤ 140737488355328) (w : World) :
    Calls Tryd.prog 33 #[.string s, .string f] w fun e w' => e = .returned (.bool (likeB s.data.toList f.data.toList)) ∧ Below w.heap.size w w' := by
  by_cases hne : s.size = f.size
  · go_enter Tryd.func33, Tryd.ntmps33
    have hE := Lib.hid (like_end s f hne)
    have Hne := Lib.hid hne
    have hle : f.size ≤ 140737488355328 := by omega
    have hc : ((s.size : Int) != (f.size : Int)) = false := by simp [hne]
    clear hne
    go_wp2_with fail
    go_loopw [5] (fun i wr => LikeRel s f i ∧ Below w.heap.size w wr) (fun i _ => f.size - (intOf i).toNat)
    case atStart => exact ⟨⟨0, by omega, rfl, by simp⟩, Below.refl _ _⟩
    case round =>
      obtain ⟨⟨k, hk, rfl, heq⟩, hb⟩ := hrel
      by_cases hlt : k < f.size
      · have hks : k < s.size := by have := Hne.out; omega
        have hst : likeB s.data.toList f.data.toList = ((if f[k] = 48 then digitB s[k] else s[k] == f[k]) && likeB (s.data.toList.drop (k + 1)) (f.data.toList.drop (k + 1))) := by
          rw [heq, drop_at s k hks, drop_at f k hlt]; rfl
        have Hst := Lib.hid hst
        clear heq hst
        have hdg := fun w => RDigit_any s[k] w
        have u1 := s[k].toNat_lt
        have u2 := f[k].toNat_lt
        by_cases h48 : f[k] = 48
        · have e48 : ((f[k].toNat : Int) == 48) = true := by rw [h48]; rfl
          cases hd : digitB s[k]
          · rw [hd] at hdg
            have hres := Lib.hid (show likeB s.data.toList f.data.toList = false by rw [Hst.out, if_pos h48, hd]; rfl)
            clear Hst
            go_wp2_with (first | (go_at_call 45; refine (hdg _).mono ?_; rintro e w1 ⟨rfl, rfl⟩))
            go_ret
            rw [hres.out]
            exact ⟨rfl, hb⟩
          · rw [hd] at hdg
            have hres := Lib.hid (show likeB s.data.toList f.data.toList = likeB (s.data.toList.drop (k + 1)) (f.data.toList.drop (k + 1)) by rw [Hst.out, if_pos h48, hd]; rfl)
            clear Hst
            go_wp2_with (first | (go_at_call 45; refine (hdg _).mono ?_; rintro e w1 ⟨rfl, rfl⟩))
            go_roundw
            case rel => exact ⟨⟨k + 1, by omega, by go_num, hres.out⟩, hb⟩
            case measure => simp [intOf]; omega
        · have e48 : ((f[k].toNat : Int) == 48) = false := by
            rw [beq_eq_false_iff_ne]
            intro e
            exact h48 (UInt8.toNat_inj.1 (by show f[k].toNat = 48; omega))
          by_cases hq : s[k] = f[k]
          · have hres := Lib.hid (show likeB s.data.toList f.data.toList = likeB (s.data.toList.drop (k + 1)) (f.data.toList.drop (k + 1)) by rw [Hst.out, if_neg h48, hq]; simp)
            have hqn : ((f[k].toNat : Int) != (s[k].toNat : Int)) = false := by rw [hq]; simp
            clear Hst hdg
            go_wp2_with fail
            go_quiet (fail)
            go_wp2_with fail
            go_roundw
            case rel => exact ⟨⟨k + 1, by omega, by go_num, hres.out⟩, below_drewN hb _⟩
            case measure => simp [intOf]; omega
          · have hres := Lib.hid (show likeB s.data.toList f.data.toList = false by rw [Hst.out, if_neg h48, beq_eq_false_iff_ne.2 hq]; rfl)
            have hqn : ((f[k].toNat : Int) != (s[k].toNat : Int)) = true := by
              rw [bne_iff_ne]
              intro e
              exact hq (UInt8.toNat_inj.1 (by omega))
            clear Hst hdg
            go_wp2_with fail
            go_quiet (fail)
            go_wp2_with fail
            go_ret
            rw [hres.out]
            exact ⟨rfl, below_drewN hb _⟩
      · have hk2 : k = f.size := by omega
        subst hk2
        have hnl : ¬ f.size < s.size := by have := Hne.out; omega
        have hres := Lib.hid (show likeB s.data.toList f.data.toList = true by rw [heq]; exact hE.out)
        clear heq hlt
        go_wp2_with fail
        go_ret
        rw [hres.out]
        exact ⟨rfl, hb⟩
  · have hr := Lib.hid (like_no s f hne)
    have hc : ((s.size : Int) != (f.size : Int)) = true := by simp; omega
    go_enter Tryd.func33, Tryd.ntmps33
    go_wp2_with fail
    go_ret
    rw [hr.out]
    exact ⟨rfl, Below.refl _ _⟩
def CapRel (s : ByteArray) (i : Value) : Prop := ∃ k : Nat, k ≤ s.size ∧ i = .int .i64 k ∧ s.data.toList.all capB = (s.data.toList.drop k).all capB
theorem cap_split (c : UInt8) : capB c = (digitB c || (!decide ((c.toNat : Int) < 65) && !decide ((90 : Int) < c.toNat))) := by
  unfold capB
  congr 1
  have h1 : decide (65 ≤ c.toNat) = !decide ((c.toNat : Int) < 65) := by
    by_cases h : 65 ≤ c.toNat
    · rw [decide_eq_true h, decide_eq_false (by omega)]; rfl
    · rw [decide_eq_false h, decide_eq_true (by omega)]; rfl
  have h2 : decide (c.toNat ≤ 90) = !decide ((90 : Int) < c.toNat) := by
    by_cases h : c.toNat ≤ 90
    · rw [decide_eq_true h, decide_eq_false (by omega)]; rfl
    · rw [decide_eq_false h, decide_eq_true (by omega)]; rfl
  rw [h1, h2]
end Go.Proofs.YtlcgfgbdehdndaaDoor
