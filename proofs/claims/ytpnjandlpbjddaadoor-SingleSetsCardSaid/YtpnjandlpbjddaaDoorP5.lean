/- Contract: the document's Points. -/
import Derived.Test.YtpnjandlpbjddaaDoorP4
namespace Go.Proofs.YtpnjandlpbjddaaDoor
open Go Go.RowKit
set_option maxRecDepth 100000

theorem RAt_step {s : ByteArray} {ps : List Int} {k i n : Nat} {p : Int} (h : Step s ps k i p n) (hi : i < s.size) (hz : s.size ≤ 140737488355328) (w : World) :
    Calls Tryd.prog 30 #[.string s, .int .i64 i] w fun e w' => e = .returned (.tuple #[.int .i32 p, .int .i64 n]) ∧ Below w.heap.size w w' := by
  obtain ⟨⟨t, ht⟩, hn, _, hs⟩ := h
  have h2 := RAt_any s i hi hz w
  rw [ht, atL_enc hs, ← hn] at h2
  exact h2
theorem RAt_bad (s : ByteArray) (i : Nat) (hi : i < s.size) (hd : errD (decL (s.data.toList.drop i))) (hz : s.size ≤ 140737488355328) (w : World) :
    Calls Tryd.prog 30 #[.string s, .int .i64 i] w fun e w' => e = .returned (.tuple #[.int .i32 0, .int .i64 0]) ∧ Below w.heap.size w w' := by
  have h2 := RAt_any s i hi hz w
  have hne : s.data.toList.drop i ≠ [] := by
    intro h
    have := congrArg List.length h
    simp at this
    omega
  rw [atL_err hne hd] at h2
  exact h2

def RPointsRel (ps : List Int) (w0 : World) (v i : Value) (wr : World) : Prop :=
  ∃ k j : Nat, Run ps k j ∧ i = .int .i64 j ∧ wr.ownsRow w0.heap.size 21 1 v k ((ps.take k).map (Value.int .i32)) ∧ Below w0.heap.size w0 wr

theorem RPoints_pre (s : ByteArray) (ps : List Int) (r : List UInt8) (hp : Pre s ps r) (hr : r = [] ∨ errD (decL r)) (hs : s.size ≤ 35184372088000) (w : World) :
    Calls Tryd.prog 15 #[.string s] w fun e w' =>
      ((r = [] ∧ ∃ v, e = .returned (.tuple #[v, .int .i64 (-1)]) ∧ w'.ownsRow w.heap.size 21 1 v ps.length (ps.map (Value.int .i32))) ∨ (r ≠ [] ∧ e = .returned (.tuple #[.slice none 0 0, .int .i64 (textL ps).length]))) ∧ Below w.heap.size w w' := by
  obtain ⟨i0, hi, iz0, iz1, iz2⟩ := info_parts rune_info
  go_enter Tryd.func15, Tryd.ntmps15
  go_wp2
  go_loopw [4, 5] (fun v i wr => RPointsRel ps w v i wr) (fun _ i _ => s.size - (intOf i).toNat)
  case atStart => exact ⟨0, 0, Run.zero _, rfl, World.ownsRow_nil _ _ _ _, Below.refl _ _⟩
  case round =>
    obtain ⟨k, i, hrun, rfl, hown, hb⟩ := hrel
    have hle := hrun.le hp
    have hsz := hb.size
    by_cases hk : k < ps.length
    · obtain ⟨p, n, hst, hrun', hn1, hn4, hin, _, _, _⟩ := hrun.step hp hk
      have hnext : Hid ((ps.take (k + 1)).map (Value.int .i32) = (ps.take k).map (Value.int .i32) ++ [.int .i32 p]) := by
        rw [hst.snoc hk, List.map_append]; rfl
      go_wp2_with (first | (go_at_call 30; refine (RAt_step hst (by omega) (by omega) _).mono ?_; rintro e w1 ⟨rfl, hb1⟩; have hown1 := own_below hown hb1; have hB1 := hb.trans (hb1.mono hsz); have hsz1 := hB1.size) | (at_builtin; refine wpList_append_own _ rfl _ _ 45 rfl w.heap.size 21 i0 (.int .i32 0) 1 4 Tryd.underlying45 hi iz0 iz1 iz2 rfl (by decide) u4 k _ rfl (hown1.alloc _) ⟨w1.heap.size, 0, none⟩ 1 1 [.int .i32 p] rfl rfl (cell_one_new _ _ _) (by intro u hu; simp at hu; subst hu; rfl) (by unfold maxLen; omega) (by omega) (by simp; omega) ?_; intro v' w5 hown5 hg5 _))
      rw [← hnext.out] at hown5
      have hb5 := below_grownOwn (hB1.alloc hsz1 (.cells #[.int .i32 p] 21)) (hown1.alloc _) hg5 (by simp; omega) (Nat.le_refl _)
      go_roundw
      case rel => exact ⟨k + 1, i + n, hrun', by go_num, hown5, hb5⟩
      case measure => simp [intOf]; omega
    · have hk2 : k = ps.length := by omega
      subst hk2
      obtain ⟨hi2, hdr, hir⟩ := hrun.end_ hp
      rw [List.take_length] at hown
      by_cases hr0 : r = []
      · have hge : ¬ i < s.size := by rw [hr0] at hir; simp at hir; omega
        clear hdr hir hi2
        go_wp2_with fail
        go_ret2
        exact ⟨.inl ⟨hr0, _, rfl, hown⟩, hb⟩
      · have hlt : i < s.size := by have := List.length_pos_iff.2 hr0; omega
        have he : errD (decL (s.data.toList.drop i)) := by rw [hdr]; exact hr.resolve_left hr0
        have Hi := Lib.hid hi2
        clear hdr hir hi2
        go_wp2_with (go_at_call 30; refine (RAt_bad s i hlt he (by omega) _).mono ?_; rintro e w1 ⟨rfl, hb1⟩)
        go_ret2
        rw [← Hi.out]
        exact ⟨.inr ⟨hr0, rfl⟩, hb.trans (hb1.mono hsz)⟩

theorem RPoints_good (s : ByteArray) (ps : List Int) (hg : Good s ps) (hs : s.size ≤ 35184372088000) (w : World) :
    Calls Tryd.prog 15 #[.string s] w fun e w' => ∃ A c, e = .returned (.tuple #[.slice A ps.length c, .int .i64 (-1)]) ∧ ps.length ≤ c ∧ Nums w' w'.heap.size .i32 A ps ∧ Below w.heap.size w w' := by
  refine (RPoints_pre s ps [] hg.pre (.inl rfl) hs w).mono fun e w' ⟨h, hb⟩ => ?_
  rcases h with ⟨_, v, he, hown⟩ | ⟨h, _⟩
  · obtain ⟨A, c, hv, hc, _, hn⟩ := Nums.of_own hown
    subst hv
    exact ⟨A, c, he, hc, hn, hb⟩
  · exact absurd rfl h
theorem RPoints_bad (s : ByteArray) (n : Nat) (hg : BadAt s n) (hs : s.size ≤ 35184372088000) (w : World) :
    Calls Tryd.prog 15 #[.string s] w fun e w' => e = .returned (.tuple #[.slice none 0 0, .int .i64 n]) ∧ Below w.heap.size w w' := by
  obtain ⟨ps, r, hp, rfl, hr, he⟩ := hg.pre
  refine (RPoints_pre s ps r hp (.inr he) hs w).mono fun _ _ ⟨h, hb⟩ => ?_
  rcases h with ⟨h, _⟩ | ⟨_, h⟩
  · exact absurd h hr
  · exact ⟨h, hb⟩
end Go.Proofs.YtpnjandlpbjddaaDoor
