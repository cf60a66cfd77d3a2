/- Contracts of the reference's Put, Join, Over. -/
import Derived.BigQuiet
import Derived.Test.YtpnjandlpbjddabDoorRP
set_option maxRecDepth 100000
set_option maxHeartbeats 4000000
namespace Go.Proofs.YtpnjandlpbjddabDoor
open Go Go.RowKit

def PuPost (L : List Pr) (w0 : World) (e : Ending) (w' : World) : Prop := ∃ A c, e = .returned (.slice A L.length c) ∧ L.length ≤ c ∧ PrsL w' w'.heap.size A L ∧ Below w0.heap.size w0 w'
theorem own2_snoc {w : World} {base : Nat} {T : TypeId} {v : Value} {L : List Pr} {x : Pr} (h : w.ownsRow base T 2 v (L.length + 1) (L.flatMap prV ++ [.int .i64 (x.1 : Int), .int .i32 x.2])) : w.ownsRow base T 2 v (L ++ [x]).length ((L ++ [x]).flatMap prV) := by
  rw [List.flatMap_append, List.length_append]
  simpa [prV] using h
section
variable {ops : Array Oper} {rest : List Oper} {o : Oper} {a : Act} {Q : Exit → Act → World → Prop}
end
theorem putL_len (p : Pr) : ∀ l : List Pr, (putL l p).length = l.length + 1
  | [] => rfl
  | a :: l => by
    unfold putL
    split
    · simp
    · simp [putL_len p l]
theorem drop_at {α : Type} {l : List α} {k : Nat} {x : α} (h : l[k]? = some x) : l.drop k = x :: l.drop (k + 1) := by
  obtain ⟨h1, h2⟩ := List.getElem?_eq_some_iff.1 h
  rw [List.drop_eq_getElem_cons h1, h2]
end Go.Proofs.YtpnjandlpbjddabDoor
