/- Contracts: the document's Byte, Decode, Encode of chapter 5; conditions: the charset is one of the four, small lengths. -/
import Derived.Test.YtpnjandlpbjddabDoorKF
set_option maxRecDepth 100000
set_option maxHeartbeats 1000000
namespace Go.Proofs.YtpnjandlpbjddabDoor
open Go Go.RowKit

theorem cd_none (f : Nat → Int) (p : Int) : ∀ N, N ≤ 256 → (∀ j, j < N → f j ≠ p) → cdOf ((List.range N).map fun m => (m, f m)) p = none
  | 0, _, _ => rfl
  | N + 1, hN, h => by
    rw [List.range_succ, List.map_append, List.map_cons, List.map_nil, cdOf_snoc, cd_none f p N (by omega) (fun j hj => h j (by omega)), if_neg (fun e => h N (by omega) e.1)]; rfl
theorem cd_hit (f : Nat → Int) (p : Int) (k : Nat) (hk : k < 256) (h : ∀ j, j < k → f j ≠ p) (he : f k = p) : ∀ N, k < N → N ≤ 256 → cdOf ((List.range N).map fun m => (m, f m)) p = some k
  | 0, h1, _ => by omega
  | N + 1, h1, hN => by
    rw [List.range_succ, List.map_append, List.map_cons, List.map_nil, cdOf_snoc]
    by_cases e : k = N
    · subst e
      rw [cd_none f p k (by omega) h, if_pos ⟨he, hk⟩]; rfl
    · rw [cd_hit f p k hk h he N (by omega) (by omega)]; rfl
def byZ (o : Option Nat) : Int := match o with
  | some n => (n : Int)
  | none => -1
def ByRel (c : Nat) (p : Int) (w0 : World) (i : Value) (wr : World) : Prop := ∃ k : Nat, k ≤ 256 ∧ i = .int .i64 k ∧ (∀ j, j < k → sgnL c j ≠ p) ∧ Below w0.heap.size w0 wr
def RdRel (c : Nat) (b : ByteArray) (w0 : World) (v i : Value) (wr : World) : Prop := ∃ k : Nat, k ≤ b.size ∧ i = .int .i64 k ∧ v = .string (tB ((b.data.toList.take k).map fun x => sgnL c x.toNat)) ∧ Below w0.heap.size w0 wr
theorem below_step {w w1 : World} (h : Below w.heap.size w w1) {o : Obj} : Below w.heap.size w (w1.alloc o) := h.alloc h.size o
def ReRes (r : List UInt8 ⊕ Nat) : Value := match r with
  | .inl bs => .tuple #[.string ⟨bs.toArray⟩, .int .i64 (-1)]
  | .inr j => .tuple #[.string ⟨#[]⟩, .int .i64 (j : Int)]
def RePost (r : List UInt8 ⊕ Nat) (w0 : World) (e : Ending) (w' : World) : Prop := e = .returned (ReRes r) ∧ Below w0.heap.size w0 w'
def ReRel (c : Nat) (ps : List Int) (w0 : World) (v6 v7 i : Value) (wr : World) : Prop := ∃ (k : Nat) (cs : List Nat), k ≤ ps.length ∧ i = .int .i64 k ∧ (ps.take k).map (cdOf (setL c)) = cs.map some ∧ v6 = .string ⟨(cs.map Nat.toUInt8).toArray⟩ ∧ v7 = .int .i64 ((textL (ps.take k)).length : Nat) ∧ Below w0.heap.size w0 wr
end Go.Proofs.YtpnjandlpbjddabDoor
