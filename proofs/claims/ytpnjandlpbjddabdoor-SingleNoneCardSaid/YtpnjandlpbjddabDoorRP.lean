/- Contracts of the reference's Find, Reverse. -/
import Derived.Test.YtpnjandlpbjddabDoorRO
set_option maxRecDepth 100000
set_option maxHeartbeats 1000000
namespace Go.Proofs.YtpnjandlpbjddabDoor
open Go Go.RowKit

/-- Pairs as they lie. -/
def PrsL (w : World) (B : Nat) (A : Option Addr) (l : List Pr) : Prop := Reads w B 2 A l.length (l.flatMap prV)
theorem PrsL.below {w w' : World} {B : Nat} {A : Option Addr} {l : List Pr} (h : PrsL w B A l) (hb : Below B w w') : PrsL w' B A l := Reads.below h hb
theorem PrsL.more {w : World} {B B' : Nat} {A : Option Addr} {l : List Pr} (h : PrsL w B A l) (hb : B ≤ B') : PrsL w B' A l := Reads.more h hb
theorem PrsL.nil (w : World) (B : Nat) (A : Option Addr) : PrsL w B A [] := Reads.none_
theorem flat2_at : ∀ (l : List Pr) (k i : Nat) (x : Pr), l[k]? = some x → i < 2 → (l.flatMap prV)[k * 2 + i]? = (prV x)[i]?
  | [], k, i, x, h, _ => by simp at h
  | a :: l, 0, i, x, h, hi => by
    simp at h; subst h
    rw [List.flatMap_cons, Nat.zero_mul, Nat.zero_add, List.getElem?_append_left (by simpa [prV] using hi)]
  | a :: l, k + 1, i, x, h, hi => by
    rw [List.flatMap_cons, List.getElem?_append_right (by simp [prV]; omega), show (prV a).length = 2 from rfl, show (k + 1) * 2 + i - 2 = k * 2 + i by omega]
    exact flat2_at l k i x (by simpa using h) hi
theorem PrsL.pair {w : World} {B : Nat} {A : Option Addr} {l : List Pr} (h : PrsL w B A l) {k : Nat} {x : Pr} (hk : l[k]? = some x) :
    ∃ ad, A = some ad ∧ ad.block < B ∧ w.cell? (ad.add (k * 2)) = some (.int .i64 (x.1 : Int)) ∧ w.cell? ⟨(ad.add (k * 2)).block, (ad.add (k * 2)).off + 1, none⟩ = some (.int .i32 x.2) ∧ ∀ j u, (prV x)[j]? = some u → w.cell? ((ad.add (k * 2)).add j) = some u := by
  have hlt : k < l.length := (List.getElem?_eq_some_iff.1 hk).1
  obtain ⟨ad, hA, hb, hc⟩ := h.2 (by omega)
  have hg : ∀ i u, (prV x)[i]? = some u → i < 2 → w.cell? (ad.add (k * 2 + i)) = some u := fun i u hu hi => hc _ _ ((flat2_at l k i x hk hi).trans hu)
  have g0 := hg 0 _ rfl (by omega)
  have g1 := hg 1 _ rfl (by omega)
  rw [Nat.add_zero] at g0
  rw [add_more _ _ _ (by omega)] at g1
  refine ⟨ad, hA, hb, g0, g1, fun j u hu => ?_⟩
  have hj : j < 2 := by have := (List.getElem?_eq_some_iff.1 hu).1; exact this
  rw [addr_add]
  exact hg j u hu hj
/-- The place of a code; -1. -/
def fndL (l : List Pr) (code : Int) : Int := match l.findIdx? fun x => decide ((x.1 : Int) = code) with
  | some i => (i : Int)
  | none => -1
def FndRel (l : List Pr) (code : Int) (w0 : World) (i : Value) (wr : World) : Prop := ∃ k : Nat, k ≤ l.length ∧ i = .int .i64 k ∧ (∀ j x, j < k → l[j]? = some x → (x.1 : Int) ≠ code) ∧ Below w0.heap.size w0 wr
theorem find_at {α : Type} {p : α → Bool} {l : List α} {k : Nat} {x : α} (hx : l[k]? = some x) (hp : p x = true) (hn : ∀ j y, j < k → l[j]? = some y → p y = false) : l.findIdx? p = some k := by
  obtain ⟨h1, h2⟩ := List.getElem?_eq_some_iff.1 hx
  rw [List.findIdx?_eq_some_iff_getElem]
  exact ⟨h1, by rw [h2]; exact hp, fun j hj => by rw [hn j _ hj (List.getElem?_eq_getElem (by omega))]; simp⟩
theorem find_no {α : Type} {p : α → Bool} {l : List α} (hn : ∀ j y, j < l.length → l[j]? = some y → p y = false) : l.findIdx? p = none := by
  rw [List.findIdx?_eq_none_iff]
  intro x hx
  obtain ⟨j, hj⟩ := List.getElem?_of_mem hx
  exact hn j x (List.getElem?_eq_some_iff.1 hj).1 hj
/-- The least code of a sign, in pairs by rising codes; -1. -/
def revP (l : List Pr) (p : Int) : Int := match l.find? fun x => x.2 == p with
  | some x => (x.1 : Int)
  | none => -1
def RevRel (l : List Pr) (p : Int) (w0 : World) (i : Value) (wr : World) : Prop := ∃ k : Nat, k ≤ l.length ∧ i = .int .i64 k ∧ (l.find? fun x => x.2 == p) = ((l.drop k).find? fun x => x.2 == p) ∧ Below w0.heap.size w0 wr
end Go.Proofs.YtpnjandlpbjddabDoor
