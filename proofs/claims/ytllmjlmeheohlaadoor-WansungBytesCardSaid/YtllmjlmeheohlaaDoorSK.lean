/- Contract of the document's Kth (chapter 07), for every number. -/
import Derived.Test.YtllmjlmeheohlaaDoorSJ
set_option maxRecDepth 100000
set_option maxHeartbeats 1000000
namespace Go.Proofs.YtllmjlmeheohlaaDoor
open Go Go.RowKit

/-- What Kth answers: the syllable with so many of its kind ahead, or 0. -/
def KthIs (k : Nat) (b : Bool) (p : Int) : Prop := (∃ n : Nat, n < 11172 ∧ isIn n = b ∧ cnt b n = k ∧ p = 44032 + n) ∨ (cnt b 11172 ≤ k ∧ p = 0)
def KRel (k : Nat) (b : Bool) (w0 : World) (kv i : Value) (wr : World) : Prop := ∃ m : Nat, m ≤ 11172 ∧ i = .int .i64 m ∧ cnt b m ≤ k ∧ kv = .int .i64 ((k - cnt b m : Nat) : Int) ∧ Below w0.heap.size w0 wr
def KPost (k : Nat) (b : Bool) (w0 : World) (e : Ending) (w' : World) : Prop := ∃ p, e = .returned (.int .i32 p) ∧ KthIs k b p ∧ Below w0.heap.size w0 w'
theorem Kth_any (k : Nat) (hk : k ≤ 1000000) (b : Bool) (w : World) :
    Calls Tryd.prog 14 #[.int .i64 k, .bool b] w (KPost k b w) := by
  generalize hP : KPost k b w = P at *
  go_enter Tryd.func14, Tryd.ntmps14
  go_wp2_with fail
  go_loopw [0, 5] (fun kv i wr => KRel k b w kv i wr) (fun _ i _ => 11172 - (intOf i).toNat)
  case atStart => exact ⟨0, by omega, rfl, by simp [cnt], by simp [cnt], Below.refl _ _⟩
  case round =>
    obtain ⟨m, hm, rfl, hle, rfl, hb⟩ := hrel
    by_cases hlt : m < 11172
    · have hp := fun w => In_any m hlt w
      have hs : Hid (cnt b (m + 1) = cnt b m + (if isIn m = b then 1 else 0)) := rfl
      by_cases he : isIn m = b
      · have hbb : (isIn m == b) = true := by simpa using he
        by_cases hz : k - cnt b m = 0
        · have hres : KthIs k b (44032 + m) := .inl ⟨m, hlt, he, by omega, rfl⟩
          have Hr := Lib.hid hres
          clear hres hs
          generalize isIn m = a at *
          generalize k - cnt b m = r at *
          subst hz
          go_wp2_with (first | (go_at_call 10; refine (hp _).mono ?_; rintro e w1 ⟨rfl, hb1⟩))
          show P (.returned (.int .i32 (44032 + m))) w1
          rw [← hP]
          exact ⟨_, rfl, Hr.out, hb.trans (hb1.mono hb.size)⟩
        · have hnx : k - cnt b (m + 1) = k - cnt b m - 1 ∧ cnt b (m + 1) ≤ k := by
            have := hs.out
            rw [if_pos he] at this
            omega
          have Hn := Lib.hid hnx
          clear hnx hs
          have hrk : k - cnt b m ≤ 1000000 := by omega
          generalize isIn m = a at *
          generalize k - cnt b m = r at *
          have hrb : ((r : Int) == 0) = false := beq_eq_false_iff_ne.2 (by omega)
          go_wp2_with (first | (go_at_call 10; refine (hp _).mono ?_; rintro e w1 ⟨rfl, hb1⟩))
          go_roundw
          case rel => exact ⟨m + 1, by omega, by go_num, Hn.out.2, by rw [Hn.out.1, show ((r - 1 : Nat) : Int) = (r : Int) - 1 by omega], hb.trans (hb1.mono hb.size)⟩
          case measure => simp [intOf]; omega
      · have hbb : (isIn m == b) = false := by simpa using he
        have hnx : cnt b (m + 1) = cnt b m := by rw [hs.out, if_neg he]; rfl
        have Hn := Lib.hid hnx
        clear hnx hs
        generalize isIn m = a at *
        go_wp2_with (first | (go_at_call 10; refine (hp _).mono ?_; rintro e w1 ⟨rfl, hb1⟩))
        go_roundw
        case rel => exact ⟨m + 1, by omega, by go_num, by rw [Hn.out]; exact hle, by rw [Hn.out], hb.trans (hb1.mono hb.size)⟩
        case measure => simp [intOf]; omega
    · have hme : m = 11172 := by omega
      subst hme
      have Hle := Lib.hid hle
      clear hlt hle
      go_wp2_with fail
      show P (.returned (.int .i32 0)) wr
      rw [← hP]
      exact ⟨_, rfl, .inr ⟨Hle.out, rfl⟩, hb⟩
end Go.Proofs.YtllmjlmeheohlaaDoor
