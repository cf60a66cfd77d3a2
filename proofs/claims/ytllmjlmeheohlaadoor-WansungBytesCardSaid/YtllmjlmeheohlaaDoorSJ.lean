/- Contracts of the document's Rank and Kth (chapter 07). -/
import Derived.Test.YtllmjlmeheohlaaDoorSI
set_option maxRecDepth 100000
set_option maxHeartbeats 1000000
namespace Go.Proofs.YtllmjlmeheohlaaDoor
open Go Go.RowKit

theorem cnt_le (b : Bool) (n : Nat) : cnt b n ≤ n := by
  have := cnt_both n
  cases b <;> omega
def RRRel (n : Nat) (w0 : World) (k i : Value) (wr : World) : Prop := ∃ m : Nat, m ≤ n ∧ i = .int .i64 m ∧ k = .int .i64 (cnt (isIn n) m) ∧ Below w0.heap.size w0 wr
theorem RRank_any (n : Nat) (hn : n < 11172) (w : World) :
    Calls Tryd.prog 11 #[.int .i64 n] w fun e w' => e = .returned (.int .i64 (cnt (isIn n) n)) ∧ Below w.heap.size w w' := by
  have hq := fun w => In_any n hn w
  go_enter Tryd.func11, Tryd.ntmps11
  go_wp2_with fail
  go_loopw [3, 4] (fun k i wr => RRRel n w k i wr) (fun _ i _ => n - (intOf i).toNat)
  case atStart => exact ⟨0, by omega, rfl, rfl, Below.refl _ _⟩
  case round =>
    obtain ⟨m, hm, rfl, rfl, hb⟩ := hrel
    by_cases hlt : m < n
    · have hs : Hid (cnt (isIn n) (m + 1) = cnt (isIn n) m + (if isIn m = isIn n then 1 else 0)) := rfl
      have hp := fun w => In_any m (by omega) w
      have hcl := cnt_le (isIn n) m
      generalize hc1 : cnt (isIn n) (m + 1) = c1 at *
      have Hc1 := Lib.hid hc1
      clear hc1
      generalize cnt (isIn n) m = c0 at *
      by_cases he : isIn m = isIn n
      · have Hs := Lib.hid (show c1 = c0 + 1 by rw [hs.out, if_pos he])
        clear hs
        rw [he] at hp
        generalize hbq : isIn n = b at *
        have Hb := Lib.hid hbq
        clear he hbq
        go_wp2_with (first | (go_at_call 10; first | (refine (hp _).mono ?_; clear hp; rintro e w1 ⟨rfl, hb1⟩) | (refine (hq _).mono ?_; clear hq; rintro e w2 ⟨rfl, hb2⟩)))
        go_roundw
        case rel => exact ⟨m + 1, by omega, by go_num, by rw [Hb.out, Hc1.out, Hs.out]; congr 1, (hb.trans (hb1.mono hb.size)).trans (hb2.mono (Nat.le_trans hb.size hb1.size))⟩
        case measure => simp [intOf]; omega
      · have Hs := Lib.hid (show c1 = c0 by rw [hs.out, if_neg he]; rfl)
        clear hs
        have hbb : (isIn m == isIn n) = false := by simpa using he
        generalize isIn m = a at *
        generalize hbq : isIn n = b at *
        have Hb := Lib.hid hbq
        clear hbq
        go_wp2_with (first | (go_at_call 10; first | (refine (hp _).mono ?_; clear hp; rintro e w1 ⟨rfl, hb1⟩) | (refine (hq _).mono ?_; clear hq; rintro e w2 ⟨rfl, hb2⟩)))
        go_roundw
        case rel => exact ⟨m + 1, by omega, by go_num, by rw [Hb.out, Hc1.out, Hs.out], (hb.trans (hb1.mono hb.size)).trans (hb2.mono (Nat.le_trans hb.size hb1.size))⟩
        case measure => simp [intOf]; omega
    · have hme : m = n := by omega
      subst hme
      go_wp2_with fail
      go_ret
      exact ⟨rfl, hb⟩
end Go.Proofs.YtllmjlmeheohlaaDoor
