/- Contracts of wansung.listed, spans, other, otherCode; condition: small numbers. -/
import Derived.Test.YtllmjlmeheohlaaDoorSA
import Derived.Test.YtllmjlmeheohlaaDoorOB
import Derived.Laws.Tables
import Derived.Deep.WholeRow
import Derived.Deep.QuietTactic
import Derived.BigQuiet
set_option maxRecDepth 100000
set_option maxHeartbeats 1000000
namespace Go.Proofs.YtllmjlmeheohlaaDoor
open Go Go.RowKit

def wB (l : Int) : ByteArray := ⟨(hexL (listW l)).toArray⟩
theorem litW (l : Int) (d : Array UInt8) (h : eqB d.toList (hexL (listW l)) = true) : ByteArray.mk d = wB l := by
  have := eqB_eq _ _ h
  unfold wB
  rw [← this]
def nilB : ByteArray := ⟨#[]⟩
theorem litN : ByteArray.mk #[] = nilB := rfl
theorem wB_other {l : Int} (h1 : l ≠ 161) (h2 : l ≠ 162) (h6 : l ≠ 166) : wB l = nilB := by
  unfold wB listW
  rw [if_neg h1, if_neg h2, if_neg h6]
  rfl
theorem Listed_any (l : Int) (hl : 0 ≤ l ∧ l ≤ 255) (w : World) :
    Calls Tryd.prog 42 #[.int .i64 l] w fun e w' => e = .returned (.tuple #[.string (wB l), .int .i64 (l * 256 + 161)]) ∧ Below w.heap.size w w' := by
  obtain ⟨l0, l1⟩ := hl
  have hor : bits .or .i64 (l * 256) 161 = l * 256 + 161 := i64_or8 (by omega) (by omega) l0 (by omega)
  have ho := fun h1 h2 h6 => @wB_other l h1 h2 h6
  refine calls_of_wp Tryd.func42 rfl ?_
  rw [litN]
  rw [litW 161]
  rotate_left
  kernel_rfl
  rw [litW 162]
  rotate_left
  kernel_rfl
  rw [litW 166]
  rotate_left
  kernel_rfl
  simp only [Tryd.ntmps42, List.size_toArray, List.length_cons, List.length_nil, Nat.reduceAdd, Nat.reduceSub, Array.replicate_succ, Array.replicate_zero, List.push_toArray, List.append_toArray, List.nil_append, List.cons_append]
  by_cases h1 : l = 161
  · subst h1
    generalize wB 161 = s1
    generalize wB 162 = s2
    generalize wB 166 = s6
    generalize nilB = s0
    go_wp2_with fail
    go_ret2
    exact ⟨rfl, Below.refl _ _⟩
  by_cases h2 : l = 162
  · subst h2
    generalize wB 161 = s1
    generalize wB 162 = s2
    generalize wB 166 = s6
    generalize nilB = s0
    go_wp2_with fail
    go_ret2
    exact ⟨rfl, Below.refl _ _⟩
  by_cases h6 : l = 166
  · subst h6
    generalize wB 161 = s1
    generalize wB 162 = s2
    generalize wB 166 = s6
    generalize nilB = s0
    go_wp2_with fail
    go_ret2
    exact ⟨rfl, Below.refl _ _⟩
  rw [ho h1 h2 h6]
  clear ho
  generalize wB 161 = s1
  generalize wB 162 = s2
  generalize wB 166 = s6
  generalize nilB = s0
  have e1 : (l == 161) = false := by simp; omega
  have e2 : (l == 162) = false := by simp; omega
  have e6 : (l == 166) = false := by simp; omega
  go_wp2_with fail
  go_ret2
  exact ⟨rfl, Below.refl _ _⟩
def spC (k : Nat) : Int := (SPN.getD k (0, 0, 0)).1
def spT (k : Nat) : Int := (SPN.getD k (0, 0, 0)).2.1
def spN (k : Nat) : Int := (SPN.getD k (0, 0, 0)).2.2
def SpAt (w : World) (bk : Nat) : Prop := ∀ k : Nat, k < 19 → w.cell? ⟨bk, k * 3, none⟩ = some (.int .i64 (spC k)) ∧ w.cell? ⟨bk, k * 3 + 1, none⟩ = some (.int .i32 (spT k)) ∧ w.cell? ⟨bk, k * 3 + 2, none⟩ = some (.int .i64 (spN k))
theorem SpAt.keep {w w' : World} {bk B : Nat} (h : SpAt w bk) (hb : Below B w w') (hB : w.heap.size ≤ B) : SpAt w' bk := fun k hk => by
  obtain ⟨a, b, c⟩ := h k hk
  have hl := World.block_lt_of_cell? _ _ a
  have hl2 : bk < B := Nat.lt_of_lt_of_le hl hB
  exact ⟨(hb.cell (p := ⟨bk, _, none⟩) hl2).trans a, (hb.cell (p := ⟨bk, _, none⟩) hl2).trans b, (hb.cell (p := ⟨bk, _, none⟩) hl2).trans c⟩
def SpPost (w0 : World) (e : Ending) (w' : World) : Prop := ∃ bk : Nat, e = .returned (.slice (some ⟨bk, 0, none⟩) 19 19) ∧ SpAt w' bk ∧ Below w0.heap.size w0 w'
theorem lt19 {k : Nat} (h : k < 19) : k = 0 ∨ k = 1 ∨ k = 2 ∨ k = 3 ∨ k = 4 ∨ k = 5 ∨ k = 6 ∨ k = 7 ∨ k = 8 ∨ k = 9 ∨ k = 10 ∨ k = 11 ∨ k = 12 ∨ k = 13 ∨ k = 14 ∨ k = 15 ∨ k = 16 ∨ k = 17 ∨ k = 18 := by omega
def spV : Array Value := #[.int .i64 41889, .int .i32 65281, .int .i64 59, .int .i64 41948, .int .i32 65510, .int .i64 1, .int .i64 41949, .int .i32 65341, .int .i64 33, .int .i64 41982, .int .i32 65507, .int .i64 1, .int .i64 42145, .int .i32 12593, .int .i64 94, .int .i64 42401, .int .i32 8560, .int .i64 10, .int .i64 42416, .int .i32 8544, .int .i64 10, .int .i64 42433, .int .i32 913, .int .i64 17, .int .i64 42450, .int .i32 931, .int .i64 7, .int .i64 42465, .int .i32 945, .int .i64 17, .int .i64 42482, .int .i32 963, .int .i64 7, .int .i64 43681, .int .i32 12353, .int .i64 83, .int .i64 43937, .int .i32 12449, .int .i64 86, .int .i64 44193, .int .i32 1040, .int .i64 6, .int .i64 44199, .int .i32 1025, .int .i64 1, .int .i64 44200, .int .i32 1046, .int .i64 26, .int .i64 44241, .int .i32 1072, .int .i64 6, .int .i64 44247, .int .i32 1105, .int .i64 1, .int .i64 44248, .int .i32 1078, .int .i64 26]
theorem spV_at {k : Nat} (h : k < 19) : spV[k * 3]? = some (.int .i64 (spC k)) ∧ spV[k * 3 + 1]? = some (.int .i32 (spT k)) ∧ spV[k * 3 + 2]? = some (.int .i64 (spN k)) := by
  rcases lt19 h with rfl | rfl | rfl | rfl | rfl | rfl | rfl | rfl | rfl | rfl | rfl | rfl | rfl | rfl | rfl | rfl | rfl | rfl | rfl <;> exact ⟨rfl, rfl, rfl⟩
theorem SpAt_new (w : World) : SpAt (w.alloc (.cells spV 74)) w.heap.size := fun k hk => by
  have hc := fun j => cell_of_row (w.alloc (.cells spV 74)) w.heap.size j _ 74 (0, 0) (heap_alloc_new w _)
  rw [hc, hc, hc]
  exact spV_at hk
theorem Spans_any (w : World) : Calls Tryd.prog 44 #[] w (SpPost w) := by
  have hS := SpAt_new w
  unfold spV at hS
  go_enter Tryd.func44, Tryd.ntmps44
  go_wp2_with fail
  go_ret
  exact ⟨_, rfl, hS, (Below.refl _ w).alloc (Nat.le_refl _) _⟩
end Go.Proofs.YtllmjlmeheohlaaDoor
