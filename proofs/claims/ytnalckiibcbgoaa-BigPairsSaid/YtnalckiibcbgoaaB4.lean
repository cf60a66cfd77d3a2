/- Contracts of big5.spans, big5.twos, big5.code; no condition but small numbers. -/
import Derived.Test.YtnalckiibcbgoaaB2
import Derived.Test.YtnalckiibcbgoaaB3
import Derived.Laws.Tables
import Derived.Deep.WholeRow
set_option maxRecDepth 100000
set_option maxHeartbeats 1000000
namespace Go.Proofs.Ytnalckiibcbgoaa
open Go Go.RowKit

def sB (n : Nat) : ByteArray := ⟨(hexL (SP.getD n (0, 0, [])).2.2).toArray⟩
theorem lit (n : Nat) (d : Array UInt8) (h : hexOk d.toList (SP.getD n (0, 0, [])).2.2 = true) : ByteArray.mk d = sB n := by
  have := hexOk_eq _ _ h
  unfold sB
  rw [← this]
def TW : List (Int × Int × Int) := [(98, 202, 772), (100, 202, 780), (163, 234, 772), (165, 234, 780)]
def twosV : Value := .agg #[.int .i64 98, .int .i32 202, .int .i32 772, .int .i64 100, .int .i32 202, .int .i32 780, .int .i64 163, .int .i32 234, .int .i32 772, .int .i64 165, .int .i32 234, .int .i32 780]
def spansV : Value := .agg #[.int .i64 136, .int .i64 86, .string (sB 0), .int .i64 136, .int .i64 99, .string (sB 1), .int .i64 136, .int .i64 101, .string (sB 2), .int .i64 136, .int .i64 117, .string (sB 3), .int .i64 136, .int .i64 161, .string (sB 4), .int .i64 136, .int .i64 164, .string (sB 5), .int .i64 136, .int .i64 166, .string (sB 6), .int .i64 161, .int .i64 64, .string (sB 7), .int .i64 163, .int .i64 64, .string (sB 8), .int .i64 164, .int .i64 64, .string (sB 9), .int .i64 165, .int .i64 64, .string (sB 10)]
def leadN (n : Nat) : Int := (SP.getD n (0, 0, [])).1
def secN (n : Nat) : Int := (SP.getD n (0, 0, [])).2.1
def listN (n : Nat) : List Int := (SP.getD n (0, 0, [])).2.2

theorem Twos_any (w : World) : Calls Try.prog 17 #[] w fun e w' => e = .returned twosV ∧ Below w.heap.size w w' := by
  go_enter Try.func17, Try.ntmps17
  go_wp2_with fail
  refine bodyPost_ret (v := twosV) (by simp [results, Try.results17, go_sem, twosV]) rfl ⟨rfl, (Below.refl _ w).alloc (Nat.le_refl _) _⟩

theorem my_build {ops : Array Oper} {rest : List Oper} {o : Oper} {a : Act} {w : World} {Q : Exit → Act → World → Prop} (hg : o.guard = none) (t : TypeId) (parts : Array (Nat × Operand)) (v : Array Value) (ho : o.op = .build t parts)
    (hf : Try.prog.built t (parts.map fun (i, x) => (i, a.eval x)).toList = some v)
    (h : wpList Try.prog ops Q rest (a.put o.dst (.agg v)) w) : wpList Try.prog ops Q (o :: rest) a w :=
  wpList_build hg t parts ho (by rw [hf]; rfl) (by rw [hf]; exact h)
theorem Spans_any (w : World) : Calls Try.prog 23 #[] w fun e w' => e = .returned spansV ∧ Below w.heap.size w w' := by
  refine calls_of_wp Try.func23 rfl ?_
  rw [lit 0]
  rotate_left
  kernel_rfl
  rw [lit 1]
  rotate_left
  kernel_rfl
  rw [lit 2]
  rotate_left
  kernel_rfl
  rw [lit 3]
  rotate_left
  kernel_rfl
  rw [lit 4]
  rotate_left
  kernel_rfl
  rw [lit 5]
  rotate_left
  kernel_rfl
  rw [lit 6]
  rotate_left
  kernel_rfl
  rw [lit 7]
  rotate_left
  kernel_rfl
  rw [lit 8]
  rotate_left
  kernel_rfl
  rw [lit 9]
  rotate_left
  kernel_rfl
  rw [lit 10]
  rotate_left
  kernel_rfl
  unfold spansV
  generalize sB 0 = s0
  generalize sB 1 = s1
  generalize sB 2 = s2
  generalize sB 3 = s3
  generalize sB 4 = s4
  generalize sB 5 = s5
  generalize sB 6 = s6
  generalize sB 7 = s7
  generalize sB 8 = s8
  generalize sB 9 = s9
  generalize sB 10 = s10
  simp only [Try.ntmps23, List.size_toArray, List.length_nil, Nat.reduceSub, Array.replicate_succ, Array.replicate_zero, List.push_toArray, List.append_toArray, List.nil_append, List.cons_append]
  go_wp2_with (first | (refine my_build rfl 57 _ #[.int .i64 136, .int .i64 86, .string s0, .int .i64 136, .int .i64 99, .string s1, .int .i64 136, .int .i64 101, .string s2, .int .i64 136, .int .i64 117, .string s3, .int .i64 136, .int .i64 161, .string s4, .int .i64 136, .int .i64 164, .string s5, .int .i64 136, .int .i64 166, .string s6, .int .i64 161, .int .i64 64, .string s7, .int .i64 163, .int .i64 64, .string s8, .int .i64 164, .int .i64 64, .string s9, .int .i64 165, .int .i64 64, .string s10] rfl (by kernel_rfl) ?_) | (refine wpList_store_row rfl 57 _ _ rfl w.heap.size #[.int .i64 136, .int .i64 86, .string s0, .int .i64 136, .int .i64 99, .string s1, .int .i64 136, .int .i64 101, .string s2, .int .i64 136, .int .i64 117, .string s3, .int .i64 136, .int .i64 161, .string s4, .int .i64 136, .int .i64 164, .string s5, .int .i64 136, .int .i64 166, .string s6, .int .i64 161, .int .i64 64, .string s7, .int .i64 163, .int .i64 64, .string s8, .int .i64 164, .int .i64 64, .string s9, .int .i64 165, .int .i64 64, .string s10] rfl rfl _ _ (heap_alloc_new w _) (by kernel_rfl) (by rfl) (by simp [Value.oneCell']) ?_; rw [World.setRow_alloc_new]))

  refine bodyPost_ret (results_cell_row rfl _ _ w.heap.size _ _ _ _ rfl (heap_alloc_new w _) Try.underlying57 rfl (by kernel_rfl)) rfl ⟨rfl, (Below.refl _ w).alloc (Nat.le_refl _) _⟩
theorem lt11 {k : Nat} (h : k < 11) : k = 0 ∨ k = 1 ∨ k = 2 ∨ k = 3 ∨ k = 4 ∨ k = 5 ∨ k = 6 ∨ k = 7 ∨ k = 8 ∨ k = 9 ∨ k = 10 := by omega
theorem idx11 {k : Nat} (hk : k < 11) (w : World) : (Instr.index 57 spansV (.int .i64 k)).run Try.prog w = .ok (.agg #[.int .i64 (leadN k), .int .i64 (secN k), .string (sB k)]) w := by
  rcases lt11 hk with rfl | rfl | rfl | rfl | rfl | rfl | rfl | rfl | rfl | rfl | rfl
  all_goals kernel_rfl
theorem idx4 {k : Nat} (hk : k < 4) (w : World) : (Instr.index 48 twosV (.int .i64 k)).run Try.prog w = .ok (.agg #[.int .i64 (TW.getD k (0, 0, 0)).1, .int .i32 (TW.getD k (0, 0, 0)).2.1, .int .i32 (TW.getD k (0, 0, 0)).2.2]) w := by
  have h4 : k = 0 ∨ k = 1 ∨ k = 2 ∨ k = 3 := by omega
  rcases h4 with rfl | rfl | rfl | rfl
  all_goals rfl
def SpansOf (V : Value) : Prop := ∀ k : Nat, k < 11 → ∀ w, (Instr.index 57 V (.int .i64 k)).run Try.prog w = .ok (.agg #[.int .i64 (leadN k), .int .i64 (secN k), .string (sB k)]) w
def TwosOf (V : Value) : Prop := ∀ k : Nat, k < 4 → ∀ w, (Instr.index 48 V (.int .i64 k)).run Try.prog w = .ok (.agg #[.int .i64 (TW.getD k (0, 0, 0)).1, .int .i32 (TW.getD k (0, 0, 0)).2.1, .int .i32 (TW.getD k (0, 0, 0)).2.2]) w
theorem Spans_abs (w : World) : Calls Try.prog 23 #[] w fun e w' => ∃ V, e = .returned V ∧ SpansOf V ∧ Below w.heap.size w w' :=
  (Spans_any w).mono fun _ _ h => ⟨_, h.1, fun _ hk w => idx11 hk w, h.2⟩
theorem Twos_abs (w : World) : Calls Try.prog 17 #[] w fun e w' => ∃ V, e = .returned V ∧ TwosOf V ∧ Below w.heap.size w w' :=
  (Twos_any w).mono fun _ _ h => ⟨_, h.1, fun _ hk w => idx4 hk w, h.2⟩
end Go.Proofs.Ytnalckiibcbgoaa
