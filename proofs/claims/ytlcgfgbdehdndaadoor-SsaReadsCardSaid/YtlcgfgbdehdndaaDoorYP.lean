/- The example of layer 1 holds; no condition. -/
import Derived.Test.YtlcgfgbdehdndaaDoorYO
import Derived.Test.YtlcgfgbdehdndaaDoorOB
import Derived.BigQuiet
set_option maxRecDepth 100000
set_option maxHeartbeats 2000000
namespace Go.Proofs.YtlcgfgbdehdndaaDoor
open Go Go.RowKit

theorem make4 (w : World) : (Instr.makeSlice 79 (.int .i64 4) (.int .i64 4)).run Tryd.prog w = .ok (.slice (some ⟨w.heap.size, 0, none⟩) 4 4) (w.alloc (.cells #[.int .u8 0, .int .u8 0, .int .u8 0, .int .u8 0] 5)) := by
  kernel_rfl
theorem Safe129 (w : World) :
    Calls Tryd.prog 49 #[.int .u64 129] w fun e w' => e = .returned (.tuple #[.string ⟨#[0, 0, 1, 1]⟩, .bool true]) ∧ Below w.heap.size w w' := by
  have hmk := make4
  have q1 : bits .and .u64 129 127 = 1 := by decide
  have q2 : bits .and .u64 1 127 = 1 := by decide
  have q3 : bits .and .u64 0 127 = 0 := by decide
  go_enter Tryd.func49, Tryd.ntmps49
  go_wp2_with fail
  refine wp_loop_rounds 5 ?_
  rw [rounds_succ]
  go_wp2_with fail
  rw [rounds_succ]
  go_wp2_with fail
  rw [rounds_succ]
  go_wp2_with fail
  rw [rounds_succ]
  go_wp2_with fail
  have hcv := conv4 (P := Tryd.prog) 79 9 5 Tryd.underlying79 Tryd.underlying5 Tryd.underlying9 w 0 0 1 1 4
  rw [rounds_succ]
  go_wp2_with fail
  go_ret2
  exact ⟨rfl, (Below.refl _ w).alloc (Nat.le_refl _) _⟩
def InW (w : World) : World := w.alloc (.cells #[.string ⟨#[97, 98]⟩, .int .i64 0, .int .i64 10, .int .i64 0, .int .i64 0] 106)
theorem Inner_ex (w : World) :
    Calls Tryd.prog 50 #[.string ⟨#[97, 98]⟩, .int .i64 10] w fun e w' => e = .returned (.pointer (some ⟨w.heap.size, 0, none⟩)) ∧ w' = InW w := by
  go_enter Tryd.func50, Tryd.ntmps50
  go_wp2_with fail
  go_ret
  exact ⟨rfl, rfl⟩
def InE (w wr : World) : Prop := wr.cell? ⟨w.heap.size, 3, none⟩ = some (.int .i64 1) ∧ wr.cell? ⟨w.heap.size, 4, none⟩ = some (.int .i64 12) ∧ w.heap.size < wr.heap.size ∧ Below w.heap.size w wr
theorem Fail_ex (w : World) (X : Obj) (nq : Nat) :
    Calls Tryd.prog 81 #[.pointer (some ⟨w.heap.size, 0, none⟩), .int .i64 1, .int .i64 12] (((InW w).alloc X).drewN nq) fun e w' => e = .returned (.tuple #[]) ∧ InE w w' := by
  rw [InW]
  go_enter Tryd.func81, Tryd.ntmps81
  go_wp2_with go_in
  go_end0
  have hl : w.heap.size < ((w.alloc (.cells #[.string ⟨#[97, 98]⟩, .int .i64 0, .int .i64 10, .int .i64 0, .int .i64 0] 106)).alloc X).heap.size := by simp only [World.size_alloc]; omega
  have c3 : (((w.alloc (.cells #[.string ⟨#[97, 98]⟩, .int .i64 0, .int .i64 10, .int .i64 0, .int .i64 0] 106)).alloc X).drewN nq).cell? ⟨w.heap.size, 3, none⟩ = some (.int .i64 0) := by
    show ((w.alloc _).alloc X).cell? _ = _
    rw [World.cell?_alloc_lt _ _ _ (by simp), cell_of_row _ w.heap.size 3 _ 106 (0, 0) (heap_alloc_new w _)]
    rfl
  have c4 : (((w.alloc (.cells #[.string ⟨#[97, 98]⟩, .int .i64 0, .int .i64 10, .int .i64 0, .int .i64 0] 106)).alloc X).drewN nq).cell? ⟨w.heap.size, 4, none⟩ = some (.int .i64 0) := by
    show ((w.alloc _).alloc X).cell? _ = _
    rw [World.cell?_alloc_lt _ _ _ (by simp), cell_of_row _ w.heap.size 4 _ 106 (0, 0) (heap_alloc_new w _)]
    rfl
  have n34 : (⟨w.heap.size, 3, none⟩ : Addr) ≠ ⟨w.heap.size, 4, none⟩ := by intro h; injection h with _ h; exact absurd h (by decide)
  refine ⟨rfl, ?_, ?_, ?_, ?_⟩
  · rw [World.cell?_alloc_lt _ _ _ (by simp; omega), World.cell?_setCell_other _ _ _ _ n34.symm]
    exact World.cell?_setCell_same _ _ _ c3
  · rw [World.cell?_alloc_lt _ _ _ (by simp; omega)]
    exact World.cell?_setCell_same _ _ _ ((World.cell?_setCell_other _ _ _ _ n34).trans c4)
  · simp; omega
  · exact ((((below_drewN (((Below.refl _ w).alloc (Nat.le_refl _) _).alloc (by simp) _) nq).setCell (Nat.le_refl _) _).setCell (Nat.le_refl _) _).alloc (by simp; omega) _)
theorem Take_ex (w : World) :
    Calls Tryd.prog 51 #[.pointer (some ⟨w.heap.size, 0, none⟩), .int .i64 3] (InW w) fun e w' => e = .returned (.string ⟨#[]⟩) ∧ InE w w' := by
  have hF := Fail_ex w
  rw [InW] at hF ⊢
  go_enter Tryd.func51, Tryd.ntmps51
  go_wp2_with go_in
  go_quiet (fail)
  go_wp2_with (first | (go_at_call 81; refine (hF _ _).mono ?_; rintro e w1 ⟨rfl, hb1⟩) | go_in)
  go_end0
  go_wp2_with fail
  go_ret
  exact ⟨rfl, hb1⟩
theorem OFault_ex (w : World) (b : Nat) (hb : b < w.heap.size) (c3 : w.cell? ⟨b, 3, none⟩ = some (.int .i64 1)) (c4 : w.cell? ⟨b, 4, none⟩ = some (.int .i64 12)) :
    Calls Tryd.prog 53 #[.pointer (some ⟨b, 0, none⟩)] w fun e w' => e = .returned (.agg #[.int .i64 1, .int .i64 12]) ∧ Below w.heap.size w w' := by
  go_enter Tryd.func53, Tryd.ntmps53
  go_wp2_with go_in
  refine bodyPost_ret (v := .agg #[.int .i64 1, .int .i64 12]) (by simp [results, Tryd.results53, go_sem]) rfl ?_
  exact ⟨rfl, (Below.refl _ w).alloc (Nat.le_refl _) _⟩
theorem Awake01 (w : World) :
    Calls Tryd.prog 36 #[] w fun e w' => e = .returned (.bool true) ∧ Below w.heap.size w w' := by
  have hb := fun w => Big2 258 (by decide) (by decide) w
  have q1 : (258 / 256 : Int).toNat.toUInt8 = 1 := by decide
  have q2 : (258 % 256 : Int).toNat.toUInt8 = 2 := by decide
  simp only [q1, q2] at hb
  go_enter Tryd.func36, Tryd.ntmps36
  go_wp2_with (first | (go_at_call 49; refine (Safe129 _).mono ?_; rintro e w1 ⟨rfl, hb1⟩) | (go_at_call 52; refine (hb _).mono ?_; rintro e w2 ⟨rfl, hb2⟩; have h6 := hb2.size; have h7 : w1.heap.size < w2.heap.size := Nat.lt_of_lt_of_le h5 h6; have h8 : w2.cell? ⟨w1.heap.size, 3, none⟩ = some (.int .i64 1) := (hb2.cell (p := ⟨w1.heap.size, 3, none⟩) h5).trans h3; have h9 : w2.cell? ⟨w1.heap.size, 4, none⟩ = some (.int .i64 12) := (hb2.cell (p := ⟨w1.heap.size, 4, none⟩) h5).trans h4) | (go_at_call 53; refine (OFault_ex _ _ h7 h8 h9).mono ?_; rintro e w5 ⟨rfl, hb5⟩) | (go_at_call 50; refine (Inner_ex _).mono ?_; rintro e w4 ⟨rfl, rfl⟩) | (go_at_call 51; refine (Take_ex _).mono ?_; rintro e w3 ⟨rfl, h3, h4, h5, hb3⟩) | go_in)
  go_ret
  exact ⟨rfl, hb1.trans (Below.trans (hb3.mono hb1.size) ((hb2.mono (by have := hb1.size; omega)).trans (hb5.mono (by have := hb1.size; omega))))⟩
end Go.Proofs.YtlcgfgbdehdndaaDoor
