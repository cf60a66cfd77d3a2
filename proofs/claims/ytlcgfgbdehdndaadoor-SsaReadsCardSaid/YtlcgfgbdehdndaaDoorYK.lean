/- Contract of lrc.note; condition: at most 100,000 bytes. -/
import Derived.Test.YtlcgfgbdehdndaaDoorYJ
import Derived.Test.YtlcgfgbdehdndaaDoorLin2
set_option maxRecDepth 100000
set_option maxHeartbeats 4000000
namespace Go.Proofs.YtlcgfgbdehdndaaDoor
open Go Go.RowKit

def smB (c : UInt8) : Bool := decide (97 ≤ c.toNat) && decide (c.toNat ≤ 122)
def nmN (l : List UInt8) : Nat := 1 + ((l.drop 1).takeWhile smB).length
def noteL (l : List UInt8) : Option (List Pc) :=
  if l.take 1 = [91] ∧ Lib.indexByte l 93 = (l.length : Int) - 1 ∧ nmN l ≠ 1 ∧ l[nmN l]? = some 58 then
    some [mk (l.take (nmN l + 1)), (false, (l.take (nmN l)).drop 1, (l.take (l.length - 1)).drop (nmN l + 1)), mk [93]]
  else none
theorem Mark_one (bk : Nat) (x : ByteArray) (w : World) (h : w.cell? ⟨bk, 0, none⟩ = some (.string x)) (hx : x.size ≤ 35184372089000) :
    Calls Tryd.prog 26 #[.slice (some ⟨bk, 0, none⟩) 1 1] w fun e w' => e = .returned (.agg #[.bool true, .string (B nMark), .string x]) ∧ Below w.heap.size w w' := by
  have hm := Mark_any bk 1 [x.data.toList] w (by
    intro j y hy
    cases j with
    | zero => simp at hy; subst hy; rw [← B_of]; exact h
    | succ j => simp at hy) (by simp) (by simp) (by simp; exact hx) (by simp)
  simp only [List.flatten_singleton, List.length_singleton, ← B_of] at hm
  exact hm
theorem idx_last {l : List UInt8} (hp : l.take 1 = [91]) (hi : Lib.indexByte l 93 = (l.length : Int) - 1) : 2 ≤ l.length ∧ l[l.length - 1]? = some 93 ∧ nmN l ≤ l.length - 1 := by
  have h0 : 0 < l.length := by cases l <;> simp at hp ⊢
  have hg := (idx_get 93 l (by omega)).1
  rw [hi, show ((l.length : Int) - 1).toNat = l.length - 1 by omega] at hg
  have h2 : 2 ≤ l.length := by
    by_cases h : l.length = 1
    · rw [h] at hg
      cases l with
      | nil => simp at h0
      | cons b l => simp at hp hg; rw [hp] at hg; exact absurd hg (by decide)
    · omega
  refine ⟨h2, hg, ?_⟩
  unfold nmN
  by_cases h : ((l.drop 1).takeWhile smB).length ≤ l.length - 2
  · omega
  · have hlen : (l.drop 1).length = l.length - 1 := by simp
    have := tw_in smB (l.drop 1) (l.length - 2) (by omega) (by omega)
    rw [List.getElem_drop] at this
    have e : l[1 + (l.length - 2)]'(by omega) = 93 := by
      have e1 : l[1 + (l.length - 2)]? = some 93 := by rw [show 1 + (l.length - 2) = l.length - 1 by omega]; exact hg
      rw [List.getElem?_eq_getElem (by omega)] at e1
      exact Option.some.inj e1
    rw [e] at this
    exact absurd this (by decide)
theorem sm_split (c : UInt8) : smB c = (decide ((97 : Int) ≤ c.toNat) && decide ((c.toNat : Int) ≤ 122)) := by
  unfold smB; congr 1 <;> (rw [decide_eq_decide]; omega)
theorem exB (s : ByteArray) (a b : Nat) : s.extract a b = B ((s.data.toList.take b).drop a) := by
  conv => lhs; rw [B_of s, B_ext]
theorem keepA {w : World} {a : Addr} {v : Value} (h : w.cell? a = some v) (o : Obj) : (w.alloc o).cell? a = some v := (World.cell?_alloc_lt w o a (World.block_lt_of_cell? _ _ h)).trans h
theorem keepB {w w' : World} {a : Addr} {v : Value} (h : w.cell? a = some v) (hb : Below w.heap.size w w') : w'.cell? a = some v := (hb.cell (World.block_lt_of_cell? _ _ h)).trans h
theorem newA (w : World) (v : Value) (T : TypeId) : (w.alloc (.cells #[v] T)).cell? ⟨w.heap.size, 0, none⟩ = some v := by
  rw [cell_of_row _ w.heap.size 0 _ T (0, 0) (heap_alloc_new w _)]; rfl
theorem rows3_new {α : Type} {f : α → List Value} (w : World) (T : TypeId) (l : List α) (h : l ≠ []) : Rows3 f (w.alloc (.cells (l.flatMap f).toArray T)) (.slice (some ⟨w.heap.size, 0, none⟩) l.length l.length) l := by
  refine .inr ⟨_, _, h, rfl, Nat.le_refl _, by simp, fun j u hu => ?_⟩
  rw [cell_of_row _ w.heap.size j _ T (0, 0) (heap_alloc_new w _)]
  simpa using hu
def NoRel (m : Nat) (i : Value) : Prop := ∃ k : Nat, k ≤ m ∧ i = .int .i64 ((1 + k : Nat) : Int)
end Go.Proofs.YtlcgfgbdehdndaaDoor
