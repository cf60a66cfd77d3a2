/- Contract of the document's answer for layer 3: Decode; condition: fewer than 100,000 bytes. -/
import Derived.Test.YtblcknhkjkcmjabDoorW7
set_option maxRecDepth 100000
set_option maxHeartbeats 1000000
namespace Go.Proofs.YtblcknhkjkcmjabDoor
open Go Go.RowKit

def RDecRel (big : Bool) (ps : List Int) (w0 : World) (s i : Value) (wr : World) : Prop :=
  ∃ k j : Nat, WRun big ps k (2 * j) ∧ i = .int .i64 j ∧ s = .string ⟨(textL (ps.take k)).toArray⟩ ∧ Below w0.heap.size w0 wr

def DecPost (big : Bool) (ps : List Int) (r : List UInt8) (e : Ending) : Prop :=
  (r = [] ∧ e = .returned (.tuple #[.string ⟨(textL ps).toArray⟩, .int .i64 (-1)])) ∨ (r ≠ [] ∧ e = .returned (.tuple #[.string ⟨#[]⟩, .int .i64 (wtext big ps).length]))
theorem DecPost.bad {big : Bool} {ps : List Int} {r : List UInt8} {j : Nat} (hr : r ≠ []) (h : Hid (2 * j = (wtext big ps).length)) : DecPost big ps r (.returned (.tuple #[.string ⟨#[]⟩, .int .i64 (2 * (j : Int))])) := by
  refine .inr ⟨hr, ?_⟩
  rw [← h.out]
  simp

theorem DecPost.good {big : Bool} {ps : List Int} {r : List UInt8} (hr : r = []) : DecPost big ps r (.returned (.tuple #[.string ⟨(textL ps).toArray⟩, .int .i64 (-1)])) := .inl ⟨hr, rfl⟩
end Go.Proofs.YtblcknhkjkcmjabDoor
