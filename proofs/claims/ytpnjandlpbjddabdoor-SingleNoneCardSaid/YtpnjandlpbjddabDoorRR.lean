/- Contracts of the reference's Join, Over. -/
import Derived.Test.YtpnjandlpbjddabDoorRQ
set_option maxRecDepth 100000
set_option maxHeartbeats 4000000
namespace Go.Proofs.YtpnjandlpbjddabDoor
open Go Go.RowKit

theorem fnd_has (l : List Pr) (c : Nat) : (0 ≤ fndL l (c : Int)) ↔ hasC l c = true := by
  unfold fndL
  rw [hasC_iff]
  cases h : l.findIdx? fun x => decide ((x.1 : Int) = (c : Int)) with
  | none =>
    rw [List.findIdx?_eq_none_iff] at h
    constructor
    · intro h2; simp only at h2; omega
    · rintro ⟨x, hx, hc⟩
      have := h x hx
      simp at this
      omega
  | some i =>
    rw [List.findIdx?_eq_some_iff_getElem] at h
    obtain ⟨h1, h2, _⟩ := h
    refine ⟨fun _ => ⟨l[i], List.getElem_mem h1, ?_⟩, fun _ => by simp only; omega⟩
    simp at h2
    omega
def JnPost (l more : List Pr) (w0 : World) (e : Ending) (w' : World) : Prop := (match joinL l more with
  | none => e = .returned (.tuple #[.slice none 0 0, .bool false])
  | some L => ∃ A c, e = .returned (.tuple #[.slice A L.length c, .bool true]) ∧ L.length ≤ c ∧ PrsL w' w'.heap.size A L) ∧ Below w0.heap.size w0 w'
def JaRel (l more : List Pr) (w0 : World) (i : Value) (wr : World) : Prop := ∃ k : Nat, k ≤ more.length ∧ i = .int .i64 k ∧ (∀ m ∈ more.take k, hasC l m.1 = false) ∧ Below w0.heap.size w0 wr
def JbRel (l more : List Pr) (w0 : World) (v i : Value) (wr : World) : Prop := ∃ (k : Nat) (A : Option Addr) (c : Nat) (L : List Pr), k ≤ more.length ∧ i = .int .i64 k ∧ v = .slice A L.length c ∧ L.length ≤ c ∧ L = (more.take k).foldl putL l ∧ L.length ≤ l.length + k ∧ PrsL wr wr.heap.size A L ∧ Below w0.heap.size w0 wr
theorem take_snoc {α : Type} {l : List α} {k : Nat} {x : α} (h : l[k]? = some x) : l.take (k + 1) = l.take k ++ [x] := by
  rw [List.take_add_one, h]; rfl
def OfRel (l more : List Pr) (w0 : World) (v i : Value) (wr : World) : Prop := ∃ (k : Nat) (A : Option Addr) (c : Nat) (L : List Pr), k ≤ more.length ∧ i = .int .i64 k ∧ v = .slice A L.length c ∧ L.length ≤ c ∧ L = overL l (more.take k) ∧ L.length ≤ l.length + k ∧ PrsL wr wr.heap.size A L ∧ Below w0.heap.size w0 wr
theorem over_snoc {l more : List Pr} {k : Nat} {x : Pr} (h : more[k]? = some x) : overL l (more.take (k + 1)) = if hasC l x.1 = true then overL l (more.take k) else putL (overL l (more.take k)) x := by
  unfold overL
  rw [take_snoc h, List.foldl_append]; rfl
end Go.Proofs.YtpnjandlpbjddabDoor
