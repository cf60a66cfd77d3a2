/- Pieces of a text, line by line; contract of line.Walk over any function that tells a line's pieces; condition: at most 100,000 bytes. -/
import Derived.Test.YtlcgfgbdehdndaaDoorYF
import Derived.Laws.AppendOwnNone
set_option maxRecDepth 100000
set_option maxHeartbeats 4000000
namespace Go.Proofs.YtlcgfgbdehdndaaDoor
open Go Go.RowKit

abbrev Pc := Bool × List UInt8 × List UInt8
def pcV (p : Pc) : List Value := [.bool p.1, .string (B p.2.1), .string (B p.2.2)]
theorem pcV_len (p : Pc) : (pcV p).length = 3 := rfl
def mk (s : List UInt8) : Pc := (true, nMark, s)
def endP (e : List UInt8) : List Pc := if e = [] then [] else [mk e]
def walkL (f : List UInt8 → Option (List Pc)) : List Ln → List Pc ⊕ Nat
  | [] => .inl []
  | x :: l => match f x.1 with
    | none => .inr x.2.2
    | some ps => match walkL f l with
      | .inr a => .inr a
      | .inl qs => .inl (ps ++ endP x.2.1 ++ qs)
def pre (acc : List Pc) : List Pc ⊕ Nat → List Pc ⊕ Nat
  | .inl qs => .inl (acc ++ qs)
  | .inr a => .inr a
theorem pre_pre (a b : List Pc) (r : List Pc ⊕ Nat) : pre a (pre b r) = pre (a ++ b) r := by
  cases r <;> simp [pre]
theorem pre_nil (r : List Pc ⊕ Nat) : pre [] r = r := by cases r <;> simp [pre]
theorem walkL_some {f : List UInt8 → Option (List Pc)} {x : Ln} {l : List Ln} {ps : List Pc} (h : f x.1 = some ps) : walkL f (x :: l) = pre (ps ++ endP x.2.1) (walkL f l) := by
  simp only [walkL, h]
  cases walkL f l <;> simp [pre]
theorem walkL_none {f : List UInt8 → Option (List Pc)} {x : Ln} {l : List Ln} (h : f x.1 = none) : walkL f (x :: l) = .inr x.2.2 := by
  simp only [walkL, h]
/-- What a function that tells a line's pieces answers. -/
def PcPost (f : List UInt8 → Option (List Pc)) (s : List UInt8) (w0 : World) (e : Ending) (w' : World) : Prop :=
  ∃ v, e = .returned (.tuple #[v, .bool (f s).isSome]) ∧ Rows3 pcV w' v ((f s).getD []) ∧ Below w0.heap.size w0 w'
def Fresh (b : Nat) (v : Value) : Prop := ∀ g, v.ownBlock = some g → b ≤ g
theorem fresh_own {w : World} {base b : Nat} {e : TypeId} {size n : Nat} {v : Value} {xs : List Value} (h : w.ownsRow base e size v n xs) (hb : b ≤ base) : Fresh b v := fun g hg => Nat.le_trans hb (h.lt g hg).1
theorem Rows3.set {α : Type} {f : α → List Value} {w : World} {v : Value} {l : List α} (h : Rows3 f w v l) {b : Nat} (hv : Fresh b v) {p : Addr} (hp : p.block < b) (x : Value) : Rows3 f (w.setCell p x) v l := by
  rcases h with h | ⟨bk, c, h0, rfl, h2, h3, h4⟩
  · exact .inl h
  · have hb : b ≤ bk := hv bk rfl
    refine .inr ⟨bk, c, h0, rfl, h2, by simpa using h3, fun j u hu => ?_⟩
    rw [World.cell?_setCell_other _ p _ x (fun e => by subst e; simp at hp; omega)]
    exact h4 j u hu
def WkRes (r : List Pc ⊕ Nat) (b : Nat) (w' : World) (v : Value) (e a : Int) : Prop :=
  (∃ ps, r = .inl ps ∧ Rows3 pcV w' v ps ∧ Fresh b v ∧ e = 0 ∧ a = 0) ∨ (∃ n : Nat, r = .inr n ∧ v = .slice none 0 0 ∧ e = 1 ∧ a = n)
def WkPost (f : List UInt8 → Option (List Pc)) (t : List UInt8) (w0 : World) (e : Ending) (w' : World) : Prop :=
  ∃ v x a, e = .returned (.tuple #[v, .agg #[.int .i64 x, .int .i64 a]]) ∧ WkRes (walkL f (linesL t)) w0.heap.size w' v x a ∧ Below w0.heap.size w0 w'
theorem WkRes.set {r : List Pc ⊕ Nat} {b : Nat} {w : World} {v : Value} {e a : Int} (h : WkRes r b w v e a) {p : Addr} (hp : p.block < b) (x : Value) : WkRes r b (w.setCell p x) v e a := by
  rcases h with ⟨ps, h1, h2, h3, h4⟩ | h
  · exact .inl ⟨ps, h1, h2.set h3 hp x, h3, h4⟩
  · exact .inr h
theorem WkRes.more {r : List Pc ⊕ Nat} {b b' : Nat} {w : World} {v : Value} {e a : Int} (h : WkRes r b w v e a) (hb : b' ≤ b) : WkRes r b' w v e a := by
  rcases h with ⟨ps, h1, h2, h3, h4⟩ | h
  · exact .inl ⟨ps, h1, h2, fun g hg => Nat.le_trans hb (h3 g hg), h4⟩
  · exact .inr h
def WkRel (f : List UInt8 → Option (List Pc)) (t : List UInt8) (w0 : World) (v i : Value) (wr : World) : Prop := ∃ (acc : List Pc) (k fu : Nat), k ≤ t.length ∧ i = .int .i64 k ∧ walkL f (linesL t) = pre acc (walkL f (linesF fu (t.drop k) k)) ∧ t.length - k ≤ fu ∧ acc.length ≤ 9 * k ∧ wr.ownsRow (w0.heap.size + 1) 54 3 v acc.length (acc.flatMap pcV) ∧ (acc = [] → v = .slice none 0 0) ∧ Below (w0.heap.size + 1) (w0.alloc (.cells #[.int .i64 0, .int .i64 0] 26)) wr
theorem piece_info : (Tryd.prog.info? 54).map (fun i => (i.zero, i.size, i.bytes)) = some (some (.agg #[.bool false, .string ⟨#[]⟩, .string ⟨#[]⟩]), 3, 40) := by kernel_rfl
theorem own_ne2 {w : World} {base : Nat} {v : Value} {n : Nat} {xs : List Value} (h : w.ownsRow base 54 3 v n xs) {K : Nat} {cs : Array Value} (hk : w.heap[K]? = some (.cells cs 57 (0, 0))) : some K ≠ v.ownBlock := by
  rcases h.2 with ⟨rfl, _⟩ | ⟨g, cap, cur, rfl, hb, hg, rest⟩
  · simp [Value.ownBlock]
  · simp only [Value.ownBlock, ne_eq, Option.some.injEq]
    rintro rfl
    rw [hg] at hk
    injection hk with hk
    injection hk with _ h2 _
    exact absurd h2 (by decide)
theorem one_new (w : World) (E : List UInt8) : ∀ (j : Nat) x, [E][j]? = some x → (w.alloc (.cells #[.string (B E)] 9)).cell? ⟨w.heap.size, j, none⟩ = some (.string (B x)) := by
  intro j x hx
  rw [cell_of_row _ w.heap.size j _ 9 (0, 0) (heap_alloc_new w _)]
  cases j with
  | zero => simp at hx; subst hx; rfl
  | succ j => simp at hx
theorem pcV_one (ps : List Pc) : ∀ u ∈ ps.flatMap pcV, u.oneCell' = true := by
  intro u hu
  rw [List.mem_flatMap] at hu
  obtain ⟨p, _, hp⟩ := hu
  simp only [pcV, List.mem_cons, List.not_mem_nil, or_false] at hp
  rcases hp with rfl | rfl | rfl <;> rfl
/-- The line at a place, told. -/
theorem wk_step {f : List UInt8 → Option (List Pc)} {t : List UInt8} {acc : List Pc} {k fu : Nat} (hk : k < t.length) (hl : walkL f (linesL t) = pre acc (walkL f (linesF (fu + 1) (t.drop k) k))) :
    (f (lnT (t.drop k)) = none → walkL f (linesL t) = .inr k) ∧ (∀ ps, f (lnT (t.drop k)) = some ps → walkL f (linesL t) = pre (acc ++ ps ++ endP (lnE (t.drop k))) (walkL f (linesF fu (t.drop (k + ((lnT (t.drop k)).length + (lnE (t.drop k)).length))) (k + ((lnT (t.drop k)).length + (lnE (t.drop k)).length))))) := by
  have hne : t.drop k ≠ [] := by
    intro e
    have := congrArg List.length e
    simp at this
    omega
  rw [linesF, if_neg hne] at hl
  constructor
  · intro h
    rw [hl, walkL_none (x := (lnT (t.drop k), lnE (t.drop k), k)) h]
    rfl
  · intro ps h
    rw [hl, walkL_some (x := (lnT (t.drop k), lnE (t.drop k), k)) h, pre_pre, List.drop_drop, List.append_assoc]
end Go.Proofs.YtlcgfgbdehdndaaDoor
