/- Contracts: point.Points: a text's signs. -/
import Derived.Test.YtnalckiibcbgoaaP2
import Derived.Lib.OthersKept
namespace Go.Proofs.Ytnalckiibcbgoaa
open Go Go.RowKit

theorem own_iterAt {w : World} {base : Nat} {e : TypeId} {size : Nat} {v : Value} {n : Nat} {xs : List Value} (h : w.ownsRow base e size v n xs) {K : Nat} {s : ByteArray} {i : Nat} (hk : w.heap[K]? = some (.stringIter s i)) (j : Nat) :
    (w.iterAt K s j).ownsRow base e size v n xs := by
  refine ⟨h.1, ?_⟩
  rcases h.2 with hn | ⟨g, cap, cur, hv, hb, hg, rest⟩
  · exact .inl hn
  · refine .inr ⟨g, cap, cur, hv, hb, ?_, rest⟩
    have hne : g ≠ K := by
      rintro rfl
      rw [hg] at hk
      cases hk
    rw [Lib.iterAt_other _ _ _ _ _ hne]
    exact hg
theorem iter_ne {w : World} {base : Nat} {e : TypeId} {size : Nat} {v : Value} {n : Nat} {xs : List Value} (h : w.ownsRow base e size v n xs) {K : Nat} {s : ByteArray} {i : Nat} (hk : w.heap[K]? = some (.stringIter s i)) : some K ≠ v.ownBlock := by
  rcases h.2 with ⟨rfl, _⟩ | ⟨g, cap, cur, rfl, hb, hg, rest⟩
  · simp [Value.ownBlock]
  · intro he
    have : K = g := by simpa [Value.ownBlock] using he
    subst this
    rw [hg] at hk
    cases hk
theorem iterPos_of {w : World} {K : Nat} {s : ByteArray} {i : Nat} (hk : w.heap[K]? = some (.stringIter s i)) : w.iterPos K = i := by
  simp [World.iterPos, hk]
theorem iter_lt {w : World} {K : Nat} {s : ByteArray} {i : Nat} (hk : w.heap[K]? = some (.stringIter s i)) : K < w.heap.size := (Array.getElem?_eq_some_iff.1 hk).1

/-- What a range over a string hands over at a sign. -/
theorem next_step {P : Program} {s : ByteArray} {ps : List Int} {k i n : Nat} {p : Int} (h : Step s ps k i p n) (hi : i < s.size) (w : World) (K : Nat) (hk : w.heap[K]? = some (.stringIter s i)) (ty : TypeId) :
    (Instr.next (.pointer (some ⟨K, 0, none⟩)) true ty).run P w = .ok (.tuple #[.bool true, .int .i64 i, .int .i32 p]) (w.iterAt K s (i + n)) := by
  obtain ⟨⟨t, ht⟩, hn, _, hs⟩ := h
  rw [Lib.run_next_any_at w K s i ty hk hi, decode_drop, ht, decL_enc hs, hn]
  have e : ((p.toNat : Nat) : Int) = p := by have := scalarB_iff.1 hs; omega
  simp only [e]

def PointsRel (ps : List Int) (s : ByteArray) (w0 : World) (O : Obj) (K : Nat) (v : Value) (wr : World) : Prop :=
  ∃ k i : Nat, Run ps k i ∧ wr.heap[K]? = some (.stringIter s i) ∧ wr.ownsRow (w0.heap.size + 1) 21 1 v k ((ps.take k).map (Value.int .i32)) ∧ Below (w0.heap.size + 1) (w0.alloc O) wr

end Go.Proofs.Ytnalckiibcbgoaa
