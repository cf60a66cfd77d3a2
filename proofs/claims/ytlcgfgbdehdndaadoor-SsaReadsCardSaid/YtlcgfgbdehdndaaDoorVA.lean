/- Worlds that are as they were but for one block; pieces of a text, line by line, told with a state. No condition. -/
import Derived.Test.YtlcgfgbdehdndaaDoorYG
set_option maxRecDepth 100000
set_option maxHeartbeats 2000000
namespace Go.Proofs.YtlcgfgbdehdndaaDoor
open Go Go.RowKit

/-- Below block B the world is as it was, but for block C. -/
structure But (C B : Nat) (w w' : World) : Prop where
  os : w'.os = w.os
  tape : w'.tape = w.tape
  output : w'.output = w.output
  size : w.heap.size ≤ w'.heap.size
  block : ∀ k, k < B → k ≠ C → w'.heap[k]? = w.heap[k]?
theorem But.of {C B : Nat} {w w' : World} (h : Below B w w') : But C B w w' := ⟨h.os, h.tape, h.output, h.size, fun k hk _ => h.block k hk⟩
theorem But.refl (C B : Nat) (w : World) : But C B w w := .of (Below.refl B w)
theorem But.trans {C B : Nat} {a b c : World} (h : But C B a b) (k : But C B b c) : But C B a c :=
  ⟨k.os.trans h.os, k.tape.trans h.tape, k.output.trans h.output, Nat.le_trans h.size k.size, fun i hi hc => (k.block i hi hc).trans (h.block i hi hc)⟩
theorem But.mono {C B B' : Nat} {w w' : World} (h : But C B w w') (hB : B' ≤ B) : But C B' w w' := ⟨h.os, h.tape, h.output, h.size, fun k hk => h.block k (Nat.lt_of_lt_of_le hk hB)⟩
theorem But.alloc {C B : Nat} {a w : World} (h : But C B a w) (hB : B ≤ w.heap.size) (o : Obj) : But C B a (w.alloc o) := h.trans (.of ((Below.refl B w).alloc hB o))
theorem But.setCell {C B : Nat} {a w : World} (h : But C B a w) {p : Addr} (hp : B ≤ p.block ∨ p.block = C) (u : Value) : But C B a (w.setCell p u) :=
  h.trans ⟨rfl, rfl, rfl, by simp [World.setCell], fun k hk hc => Below.heap_setCell _ _ _ _ (by rcases hp with hp | hp <;> omega)⟩
theorem But.below {C B : Nat} {w w' : World} (h : But C B w w') (hB : B ≤ C) : Below B w w' := ⟨h.os, h.tape, h.output, h.size, fun k hk => h.block k hk (by omega)⟩
theorem But.grown {C B : Nat} {a w w' : World} {row : Option Nat} (h : But C B a w) (hg : w.grownBy w' row) (hB : B ≤ w.heap.size) (hr : ∀ k, row = some k → B ≤ k) : But C B a w' :=
  h.trans (.of ((Below.refl B w).grown hg hB hr))
theorem But.grownOwn {C B base : Nat} {e : TypeId} {size n : Nat} {v : Value} {xs : List Value} {a w w' : World} (h : But C B a w) (hown : w.ownsRow base e size v n xs) (hg : w.grownBy w' v.ownBlock) (hB : B ≤ w.heap.size) (hb : B ≤ base) : But C B a w' :=
  h.grown hg hB fun k hk => by have := (hown.lt k hk).1; omega
theorem But.cell {C B : Nat} {w w' : World} (h : But C B w w') {p : Addr} (hp : p.block < B) (hc : p.block ≠ C) : w'.cell? p = w.cell? p := World.cell?_of_block (w := w) (h.block p.block hp hc)
theorem But.frozen {C B : Nat} {w w' : World} (h : But C B w w') {p : Addr} (hp : p.block < B) (hc : p.block ≠ C) : w'.frozen? p = w.frozen? p := World.frozen?_of_block (w := w) (h.block p.block hp hc)
theorem but_a1 {C : Nat} {w w1 : World} {o : Obj} (h : But C (w.alloc o).heap.size (w.alloc o) w1) : But C w.heap.size w w1 :=
  ((But.refl C w.heap.size w).alloc (Nat.le_refl _) o).trans (h.mono (by simp))
theorem own_but {C : Nat} {w w1 : World} {base : Nat} {e : TypeId} {size : Nat} {v : Value} {n : Nat} {xs : List Value} (h : w.ownsRow base e size v n xs) (hb : But C w.heap.size w w1) (hC : C < base) : w1.ownsRow base e size v n xs :=
  h.kept (row := some C) ⟨hb.os, hb.tape, hb.output, hb.size, fun k hk hc => hb.block k hk (fun e => hc (by rw [e]))⟩ (.inr fun e => by
    have := (h.lt C e).1
    omega)
theorem heap_but {C : Nat} {w w' : World} {K : Nat} {o : Obj} (h : w.heap[K]? = some o) (hne : K ≠ C) (hb : But C w.heap.size w w') : w'.heap[K]? = some o := by
  rw [hb.block K (Array.getElem?_eq_some_iff.1 h).1 hne, h]
theorem box2_but {C : Nat} {w wr : World} {T : TypeId} {a b : Value} (hC : C < w.heap.size) (hb : But C (w.heap.size + 1) (w.alloc (.cells #[a, b] T)) wr) :
    wr.cell? ⟨w.heap.size, 0, none⟩ = some a ∧ wr.cell? ⟨w.heap.size, 1, none⟩ = some b ∧ wr.frozen? ⟨w.heap.size, 0, none⟩ = false ∧ wr.frozen? ⟨w.heap.size, 1, none⟩ = false ∧ w.heap.size < wr.heap.size := by
  have h1 := hb.size
  simp only [World.size_alloc] at h1
  have hl : w.heap.size < w.heap.size + 1 := Nat.lt_succ_self _
  have hc : w.heap.size ≠ C := by omega
  have e := heap_alloc_new w (.cells #[a, b] T)
  refine ⟨?_, ?_, ?_, ?_, by omega⟩
  · rw [hb.cell (p := ⟨w.heap.size, 0, none⟩) hl hc, cell_of_row _ w.heap.size 0 _ T (0, 0) e]; rfl
  · rw [hb.cell (p := ⟨w.heap.size, 1, none⟩) hl hc, cell_of_row _ w.heap.size 1 _ T (0, 0) e]; rfl
  · rw [hb.frozen (p := ⟨w.heap.size, 0, none⟩) hl hc, frozen_of_row _ w.heap.size 0 _ T e]
  · rw [hb.frozen (p := ⟨w.heap.size, 1, none⟩) hl hc, frozen_of_row _ w.heap.size 1 _ T e]
theorem but_row {C : Nat} {w w' : World} (hb : But C w.heap.size w w') : w.grownBy w' (some C) := ⟨hb.os, hb.tape, hb.output, hb.size, fun k hk hc => hb.block k hk (fun e => hc (by rw [e]))⟩
section
variable {σ : Type} (g : σ → List UInt8 → Option (σ × List Pc))
def walkS : σ → List Ln → List Pc ⊕ Nat
  | _, [] => .inl []
  | st, x :: l => match g st x.1 with
    | none => .inr x.2.2
    | some (st', ps) => match walkS st' l with
      | .inr a => .inr a
      | .inl qs => .inl (ps ++ endP x.2.1 ++ qs)
end
theorem walkS_some {σ : Type} {g : σ → List UInt8 → Option (σ × List Pc)} {st st' : σ} {x : Ln} {l : List Ln} {ps : List Pc} (h : g st x.1 = some (st', ps)) : walkS g st (x :: l) = pre (ps ++ endP x.2.1) (walkS g st' l) := by
  simp only [walkS, h]
  cases walkS g st' l <;> simp [pre]
theorem walkS_none {σ : Type} {g : σ → List UInt8 → Option (σ × List Pc)} {st : σ} {x : Ln} {l : List Ln} (h : g st x.1 = none) : walkS g st (x :: l) = .inr x.2.2 := by
  simp only [walkS, h]
/-- The line at a place, told. -/
theorem wkS_step {σ : Type} {g : σ → List UInt8 → Option (σ × List Pc)} {st0 st : σ} {t : List UInt8} {acc : List Pc} {k fu : Nat} (hk : k < t.length) (hl : walkS g st0 (linesL t) = pre acc (walkS g st (linesF (fu + 1) (t.drop k) k))) :
    (g st (lnT (t.drop k)) = none → walkS g st0 (linesL t) = .inr k) ∧ (∀ st' ps, g st (lnT (t.drop k)) = some (st', ps) → walkS g st0 (linesL t) = pre (acc ++ ps ++ endP (lnE (t.drop k))) (walkS g st' (linesF fu (t.drop (k + ((lnT (t.drop k)).length + (lnE (t.drop k)).length))) (k + ((lnT (t.drop k)).length + (lnE (t.drop k)).length))))) := by
  have hne : t.drop k ≠ [] := by
    intro e
    have := congrArg List.length e
    simp at this
    omega
  rw [linesF, if_neg hne] at hl
  constructor
  · intro h
    rw [hl, walkS_none (x := (lnT (t.drop k), lnE (t.drop k), k)) h]
    rfl
  · intro st' ps h
    rw [hl, walkS_some (x := (lnT (t.drop k), lnE (t.drop k), k)) h, pre_pre, List.drop_drop, List.append_assoc]
end Go.Proofs.YtlcgfgbdehdndaaDoor
