/- Contracts of the document's Put and Write that tell what else stands; an own row of texts beside one of pieces; no condition but the length. -/
import Derived.Test.YtlcgfgbdehdndaaDoorVO
set_option maxRecDepth 100000
set_option maxHeartbeats 4000000
namespace Go.Proofs.YtlcgfgbdehdndaaDoor
open Go Go.RowKit

theorem grown_a1 {w w' : World} {o : Obj} {row : Option Nat} (h : (w.alloc o).grownBy w' row) : w.grownBy w' row :=
  ⟨h.os, h.tape, h.output, by have := h.size; simp at this; omega, fun k hk hc => (h.block k (by simp; omega) hc).trans (Below.heap_alloc _ _ _ hk)⟩
theorem own_other {w w' : World} {b1 b2 s1 s2 n1 n2 : Nat} {e1 e2 : TypeId} {v1 v2 : Value} {x1 x2 : List Value} (h1 : w.ownsRow b1 e1 s1 v1 n1 x1) (h2 : w.ownsRow b2 e2 s2 v2 n2 x2) (hne : e1 ≠ e2) (hg : w.grownBy w' v1.ownBlock) : w'.ownsRow b2 e2 s2 v2 n2 x2 := by
  refine h2.kept hg ?_
  cases hv : v2.ownBlock with
  | none => exact .inl rfl
  | some g =>
    refine .inr fun e => ?_
    obtain ⟨cs, fz, h3⟩ := own_type h2 g hv
    obtain ⟨cs', fz', h4⟩ := own_type h1 g e.symm
    rw [h3] at h4
    injection h4 with h4
    injection h4 with _ h4 _
    exact hne h4.symm
/-- Put and Write onto a row of the call's own: the row grows by the piece. -/
def PutPost2 (base : Nat) (v : Value) (ps : List Pc) (p : Pc) (w0 : World) (e : Ending) (w' : World) : Prop := ∃ v', e = .returned v' ∧ w'.ownsRow base 55 3 v' (ps.length + 1) ((ps ++ [p]).flatMap pcV) ∧ (∀ B, B ≤ base → Below B w0 w') ∧ w0.grownBy w' v.ownBlock
theorem Put2_any (base : Nat) (v : Value) (ps : List Pc) (s : ByteArray) (w : World) (hown : w.ownsRow base 55 3 v ps.length (ps.flatMap pcV)) (hb : base ≤ w.heap.size) (hn : ps.length ≤ 1000000) :
    Calls Tryd.prog 16 #[v, .string s] w (PutPost2 base v ps (mk s.data.toList) w) := by
  generalize hP : PutPost2 base v ps (mk s.data.toList) w = P at *
  obtain ⟨i0, hi, iz0, iz1, iz2⟩ := info_parts rpiece_info
  have Hown := Lib.hid hown
  clear hown
  go_enter Tryd.func16, Tryd.ntmps16
  go_wp2_with (at_builtin; refine wpList_append_own _ rfl _ _ 29 rfl base 55 i0 _ 3 40 Tryd.underlying29 hi iz0 iz1 iz2 rfl (by decide) _ ps.length _ rfl (Hown.out.alloc _) ⟨w.heap.size, 0, none⟩ 1 1 [.bool true, .string ⟨#[109, 97, 114, 107]⟩, .string s] rfl rfl ?d1 ?d2 ?d3 ?d4 ?d5 ?_)
  case d1 => exact three_new w _ _ _ _
  case d2 => intro u hu; simp at hu; rcases hu with rfl | rfl | rfl <;> rfl
  case d3 => unfold maxLen; omega
  case d4 => omega
  case d5 => simp; omega
  intro v3 w3 hown3 hg3 h03
  have hB3 := fun B (hB : B ≤ base) => below_grownOwn ((Below.refl B w).alloc (Nat.le_trans hB hb) (.cells #[.bool true, .string ⟨#[109, 97, 114, 107]⟩, .string s] 55)) (Hown.out.alloc _) hg3 (by simp; omega) hB
  have Hown3 := Lib.hid hown3
  have HB3 := Lib.hid hB3
  have HG3 := Lib.hid (grown_a1 hg3)
  clear hown3 hg3 h03 hB3
  go_wp2_with fail
  show P (.returned v3) _
  rw [← hP]
  refine ⟨_, rfl, ?_, HB3.out, HG3.out⟩
  have := Hown3.out
  simp only [List.flatMap_append, List.flatMap_cons, List.flatMap_nil, List.append_nil]
  rw [show pcV (mk s.data.toList) = [.bool true, .string ⟨#[109, 97, 114, 107]⟩, .string s] by unfold pcV mk; rw [← B_of]; rfl]
  exact this
theorem Write2_any (base : Nat) (v : Value) (ps : List Pc) (m s : ByteArray) (w : World) (hown : w.ownsRow base 55 3 v ps.length (ps.flatMap pcV)) (hb : base ≤ w.heap.size) (hn : ps.length ≤ 1000000) :
    Calls Tryd.prog 15 #[v, .string m, .string s] w (PutPost2 base v ps (false, m.data.toList, s.data.toList) w) := by
  generalize hP : PutPost2 base v ps (false, m.data.toList, s.data.toList) w = P at *
  obtain ⟨i0, hi, iz0, iz1, iz2⟩ := info_parts rpiece_info
  have Hown := Lib.hid hown
  clear hown
  go_enter Tryd.func15, Tryd.ntmps15
  go_wp2_with (at_builtin; refine wpList_append_own _ rfl _ _ 29 rfl base 55 i0 _ 3 40 Tryd.underlying29 hi iz0 iz1 iz2 rfl (by decide) _ ps.length _ rfl (Hown.out.alloc _) ⟨w.heap.size, 0, none⟩ 1 1 [.bool false, .string m, .string s] rfl rfl ?d1 ?d2 ?d3 ?d4 ?d5 ?_)
  case d1 => exact three_new w _ _ _ _
  case d2 => intro u hu; simp at hu; rcases hu with rfl | rfl | rfl <;> rfl
  case d3 => unfold maxLen; omega
  case d4 => omega
  case d5 => simp; omega
  intro v3 w3 hown3 hg3 h03
  have hB3 := fun B (hB : B ≤ base) => below_grownOwn ((Below.refl B w).alloc (Nat.le_trans hB hb) (.cells #[.bool false, .string m, .string s] 55)) (Hown.out.alloc _) hg3 (by simp; omega) hB
  have Hown3 := Lib.hid hown3
  have HB3 := Lib.hid hB3
  have HG3 := Lib.hid (grown_a1 hg3)
  clear hown3 hg3 h03 hB3
  go_wp2_with fail
  show P (.returned v3) _
  rw [← hP]
  refine ⟨_, rfl, ?_, HB3.out, HG3.out⟩
  have := Hown3.out
  simp only [List.flatMap_append, List.flatMap_cons, List.flatMap_nil, List.append_nil]
  rw [show pcV (false, m.data.toList, s.data.toList) = [.bool false, .string m, .string s] by unfold pcV; rw [← B_of, ← B_of]]
  exact this
end Go.Proofs.YtlcgfgbdehdndaaDoor
