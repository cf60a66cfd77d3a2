/- Contracts: point.Valid, point.Plain; the document's Points and Text; Same, Fault of the law's package. -/
import Derived.Test.YtpnjandlpbjddabDoorP3
import Derived.Test.YtpnjandlpbjddabDoorA4
namespace Go.Proofs.YtpnjandlpbjddabDoor
open Go Go.RowKit
set_option maxRecDepth 100000

def plainB (l : List UInt8) : Bool := l.all fun b => b.toNat < 128
def PlainRel (s : ByteArray) (i : Value) : Prop := ∃ k : Nat, k ≤ s.size ∧ i = .int .i64 k ∧ plainB (s.data.toList.take k) = true
theorem take_succ_getD (s : ByteArray) (k : Nat) (h : k < s.size) : s.data.toList.take (k + 1) = s.data.toList.take k ++ [s[k]] := by
  rw [List.take_succ_eq_append_getElem (by simpa using h)]; rfl
theorem plainB_snoc (a : List UInt8) (b : UInt8) : plainB (a ++ [b]) = (plainB a && decide (b.toNat < 128)) := by simp [plainB]
theorem plainB_take (l : List UInt8) (k : Nat) (h : plainB (l.take k) = false) : plainB l = false := by
  cases hp : plainB l with
  | false => rfl
  | true =>
    rw [← h]
    unfold plainB at hp ⊢
    rw [List.all_eq_true] at hp
    exact (List.all_eq_true.2 fun x hx => hp x (List.mem_of_mem_take hx)).symm
def SameRel (n : Nat) (w0 : World) (i : Value) (wr : World) : Prop := ∃ k : Nat, k ≤ n ∧ i = .int .i64 k ∧ Below w0.heap.size w0 wr
theorem LFault_neg (a : Int) (h : a < 0) (w : World) :
    Calls Tryd.prog 11 #[.int .i64 a] w fun e w' => e = .returned (.agg #[.int .i64 0, .int .i64 0]) ∧ Below w.heap.size w w' := by
  go_enter Tryd.func11, Tryd.ntmps11
  go_wp2
  refine bodyPost_ret (v := .agg #[.int .i64 0, .int .i64 0]) (by simp [results, Tryd.results11, go_sem]) rfl ⟨rfl, ?_⟩
  repeat (first | exact Below.refl _ _ | refine Below.alloc ?_ (by simp) _ | refine Below.setCell ?_ (by simp) _)
theorem LFault_pos (a : Int) (h : 0 ≤ a) (w : World) :
    Calls Tryd.prog 11 #[.int .i64 a] w fun e w' => e = .returned (.agg #[.int .i64 2, .int .i64 a]) ∧ Below w.heap.size w w' := by
  go_enter Tryd.func11, Tryd.ntmps11
  go_wp2
  refine bodyPost_ret (v := .agg #[.int .i64 2, .int .i64 a]) (by simp [results, Tryd.results11, go_sem]) rfl ⟨rfl, ?_⟩
  repeat (first | exact Below.refl _ _ | refine Below.alloc ?_ (by simp) _ | refine Below.setCell ?_ (by simp) _)

theorem mk_append (a b : List UInt8) : (⟨a.toArray⟩ : ByteArray) ++ ⟨b.toArray⟩ = ⟨(a ++ b).toArray⟩ := by
  apply ByteArray.ext
  simp
def RTextRel (ps : List Int) (w0 : World) (s i : Value) (wr : World) : Prop := ∃ k : Nat, k ≤ ps.length ∧ i = .int .i64 k ∧ s = .string ⟨(textL (ps.take k)).toArray⟩ ∧ Below w0.heap.size w0 wr
end Go.Proofs.YtpnjandlpbjddabDoor
