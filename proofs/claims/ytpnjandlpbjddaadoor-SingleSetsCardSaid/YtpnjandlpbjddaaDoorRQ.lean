/- Contracts of the reference's Put, Join, Over. -/
import Derived.BigQuiet
import Derived.Test.YtpnjandlpbjddaaDoorRP
set_option maxRecDepth 100000
set_option maxHeartbeats 4000000
namespace Go.Proofs.YtpnjandlpbjddaaDoor
open Go Go.RowKit

theorem rpair_info : (Tryd.prog.info? 35).map (fun i => (i.zero, i.size, i.bytes)) = some (some (.agg #[.int .i64 0, .int .i32 0]), 2, 16) := by kernel_rfl
def PuPost (L : List Pr) (w0 : World) (e : Ending) (w' : World) : Prop := ∃ A c, e = .returned (.slice A L.length c) ∧ L.length ≤ c ∧ PrsL w' w'.heap.size A L ∧ Below w0.heap.size w0 w'
def PuRel (l : List Pr) (p : Pr) (base : Nat) (W0 : World) (v d i : Value) (wr : World) : Prop := ∃ (k : Nat) (L : List Pr) (b : Bool), k ≤ l.length ∧ i = .int .i64 k ∧ d = .bool b ∧ (L ++ if b = true then l.drop k else putL (l.drop k) p) = putL l p ∧ L.length ≤ k + b.toNat ∧
  wr.ownsRow base 35 2 v L.length (L.flatMap prV) ∧ Below base W0 wr ∧ base ≤ wr.heap.size
theorem own2_snoc {w : World} {base : Nat} {T : TypeId} {v : Value} {L : List Pr} {x : Pr} (h : w.ownsRow base T 2 v (L.length + 1) (L.flatMap prV ++ [.int .i64 (x.1 : Int), .int .i32 x.2])) : w.ownsRow base T 2 v (L ++ [x]).length ((L ++ [x]).flatMap prV) := by
  rw [List.flatMap_append, List.length_append]
  simpa [prV] using h
section
variable {ops : Array Oper} {rest : List Oper} {o : Oper} {a : Act} {Q : Exit → Act → World → Prop}
/-- A pair behind a row of pairs of the call's own. -/
theorem app_pr (hgd : o.guard = none) (s x : Operand) (ho : o.op = .call { callee := .builtin .append, args := #[s, x], argTypes := #[32, 32] }) (base : Nat) (v : Value) (L : List Pr) (hs : a.eval s = v) (W : World) (y : Pr)
    (hown : W.ownsRow base 35 2 v L.length (L.flatMap prV)) (hbase : base ≤ W.heap.size) (hlen : L.length ≤ 16777216) (hx : a.eval x = .slice (some ⟨W.heap.size, 0, none⟩) 1 1) (c1 c2 : Int) (h1 : c1 = (y.1 : Int)) (h2 : c2 = y.2)
    (h : ∀ v' w', Hid (w'.ownsRow base 35 2 v' (L ++ [y]).length ((L ++ [y]).flatMap prV)) → Below base W w' → wpList Tryd.prog ops Q rest (a.put o.dst v') w') :
    wpList Tryd.prog ops Q (o :: rest) a (W.alloc (.cells #[.int .i64 c1, .int .i32 c2] 35)) := by
  obtain ⟨i0, hi, iz0, iz1, iz2⟩ := info_parts rpair_info
  subst h1
  subst h2
  refine wpList_append_own _ hgd s x 32 ho base 35 i0 _ 2 16 Tryd.underlying32 hi iz0 iz1 iz2 rfl (by decide) v L.length _ hs (hown.alloc _) ⟨W.heap.size, 0, none⟩ 1 1 [.int .i64 (y.1 : Int), .int .i32 y.2] hx rfl (two_new2 W _ _ _) ?_ (by unfold maxLen; omega) (by omega) (by simp; omega) ?_
  · intro u hu; simp only [List.mem_cons, List.not_mem_nil, or_false] at hu; rcases hu with rfl | rfl <;> rfl
  · intro v6 w6 hown6 hg6 _
    exact h v6 w6 (Lib.hid (own2_snoc hown6)) (below_grownOwn ((Below.refl _ W).alloc hbase _) (hown.alloc _) hg6 (by simp; omega) (Nat.le_refl _))
end
theorem putL_len (p : Pr) : ∀ l : List Pr, (putL l p).length = l.length + 1
  | [] => rfl
  | a :: l => by
    unfold putL
    split
    · simp
    · simp [putL_len p l]
theorem drop_at {α : Type} {l : List α} {k : Nat} {x : α} (h : l[k]? = some x) : l.drop k = x :: l.drop (k + 1) := by
  obtain ⟨h1, h2⟩ := List.getElem?_eq_some_iff.1 h
  rw [List.drop_eq_getElem_cons h1, h2]
end Go.Proofs.YtpnjandlpbjddaaDoor
