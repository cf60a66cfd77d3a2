/- The document's answer for chapter 07: Second, span, the n-th sign, the rows, the sign of two bytes, the code of a sign; no condition but small numbers. -/
import Derived.Test.YtllmjlmeheohlaaDoorSV
set_option maxRecDepth 100000
set_option maxHeartbeats 1000000
namespace Go.Proofs.YtllmjlmeheohlaaDoor
open Go Go.RowKit

theorem RSecond_any (b : Int) (hb : -1000 ≤ b ∧ b ≤ 1000) (w : World) :
    Calls Tryd.prog 28 #[.int .i64 b] w fun e w' => e = .returned (.int .i64 (secZ b)) ∧ Below w.heap.size w w' := by
  have h0 := hb.1
  have h1 := hb.2
  go_enter Tryd.func28, Tryd.ntmps28
  go_wp2
  all_goals go_ret
  all_goals refine ⟨ret_int ?_, Below.refl _ _⟩
  all_goals unfold secZ
  all_goals repeat' split
  all_goals omega
theorem RSpan_any (b fr la p : Int) (hb : 0 ≤ b ∧ b ≤ 255) (hf : 0 ≤ fr ∧ fr ≤ 255) (hp : 0 ≤ p ∧ p ≤ 65535) (w : World) :
    Calls Tryd.prog 39 #[.int .i64 b, .int .i64 fr, .int .i64 la, .int .i32 p] w fun e w' => e = .returned (.int .i32 (spanR b fr la p)) ∧ w = w' := by
  obtain ⟨b0, b1⟩ := hb
  obtain ⟨f0, f1⟩ := hf
  obtain ⟨p0, p1⟩ := hp
  by_cases h1 : b < fr
  · have e : spanR b fr la p = 0 := if_pos (.inl h1)
    rw [e]
    go_enter Tryd.func39, Tryd.ntmps39
    go_wp2_with fail
    go_ret
    exact ⟨rfl, rfl⟩
  · by_cases h2 : la < b
    · have e : spanR b fr la p = 0 := if_pos (.inr h2)
      rw [e]
      go_enter Tryd.func39, Tryd.ntmps39
      go_wp2_with fail
      go_ret
      exact ⟨rfl, rfl⟩
    · have e : spanR b fr la p = p + (b - fr) := if_neg (by omega)
      have d1 : decide (b < fr) = false := by simpa using h1
      have d2 : decide (la < b) = false := by simpa using h2
      rw [e]
      go_enter Tryd.func39, Tryd.ntmps39
      go_wp2_with fail
      go_ret
      exact ⟨rfl, rfl⟩
def RNthRel (ps : List Int) (n : Nat) (w0 : World) (nv i : Value) (wr : World) : Prop := ∃ k j : Nat, Run ps k j ∧ i = .int .i64 j ∧ nv = .int .i64 ((n - k : Nat) : Int) ∧ k ≤ n ∧ Below w0.heap.size w0 wr
theorem RNth_any (s : ByteArray) (ps : List Int) (hg : Good s ps) (hs : s.size ≤ 1000000) (n : Nat) (hn : n < ps.length) (hn2 : n ≤ 1000) (w : World) :
    Calls Tryd.prog 38 #[.string s, .int .i64 n] w fun e w' => e = .returned (.int .i32 (ps.getD n 0)) ∧ Below w.heap.size w w' := by
  go_enter Tryd.func38, Tryd.ntmps38
  go_wp2_with fail
  go_loopw [1, 5] (fun nv i wr => RNthRel ps n w nv i wr) (fun nv _ _ => (intOf nv).toNat)
  case atStart => exact ⟨0, 0, Run.zero _, rfl, rfl, by omega, Below.refl _ _⟩
  case round =>
    obtain ⟨k, j, hrun, rfl, rfl, hkn, hb⟩ := hrel
    have hle := hrun.le hg.pre
    have hsz := hb.size
    obtain ⟨p, m, hst, hrun', hn1, hn4, hin, _, _, _⟩ := hrun.step hg.pre (by omega)
    have hgp : ps.getD k 0 = p := by
      have h1 := hst.snoc (by omega)
      rw [take_getD (by omega)] at h1
      simpa using h1
    by_cases he : k = n
    · subst he
      have hval := Lib.hid hgp
      clear hgp
      rw [Nat.sub_self]
      go_wp2_with (first | (go_at_call 56; refine (RAt_step hst (by omega) (by omega) _).mono ?_; rintro e w1 ⟨rfl, hb1⟩))
      go_ret
      rw [hval.out]
      exact ⟨rfl, hb.trans (hb1.mono hsz)⟩
    · clear hgp
      generalize hq : n - k = q at *
      have hq0 : 0 < q ∧ q ≤ 1000 := by omega
      obtain ⟨q0, q1⟩ := hq0
      have hz1 : ((q : Int) == 0) = false := beq_eq_false_iff_ne.2 (by omega)
      have hz2 : ((m : Int) == 0) = false := beq_eq_false_iff_ne.2 (by omega)
      have Hq := Lib.hid hq
      clear hq
      go_wp2_with (first | (go_at_call 56; refine (RAt_step hst (by omega) (by omega) _).mono ?_; rintro e w1 ⟨rfl, hb1⟩))
      go_roundw
      case rel => exact ⟨k + 1, j + m, hrun', by go_num, by have := Hq.out; rw [show ((n - (k + 1) : Nat) : Int) = (q : Int) - 1 by omega], by omega, hb.trans (hb1.mono hsz)⟩
      case measure => simp [intOf]; omega
def rtB (l : Int) : ByteArray := ⟨(textL (listW l)).toArray⟩
theorem litT (l : Int) (d : Array UInt8) (h : eqB d.toList (textL (listW l)) = true) : ByteArray.mk d = rtB l := by
  have := eqB_eq _ _ h
  unfold rtB
  rw [← this]
theorem scal_chk : [161, 162, 166].all (fun l : Int => (listW l).all scalarB) = true := by decide +kernel
theorem rtB_good (l : Int) (hl : l = 161 ∨ l = 162 ∨ l = 166) : Good (rtB l) (listW l) := good_text fun p hp => List.all_eq_true.1 (List.all_eq_true.1 scal_chk l (by simp; omega)) p hp
theorem rtB_size (l : Int) (hl : l = 161 ∨ l = 162 ∨ l = 166) : (rtB l).size ≤ 1000 := by
  have h := (len_textL (listW l)).2
  have h2 := len_list l
  rw [(rtB_good l hl).size]; omega
end Go.Proofs.YtllmjlmeheohlaaDoor
