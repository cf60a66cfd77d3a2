/- Contracts of octet.Join, line.Text, Mark, Whole; condition: less than 2^45 bytes. -/
import Derived.Test.YtlcgfgbdehdndaaDoorYB
set_option maxRecDepth 100000
set_option maxHeartbeats 1000000
namespace Go.Proofs.YtlcgfgbdehdndaaDoor
open Go Go.RowKit

theorem join_flat : ∀ xs : List (List UInt8), Lib.join xs [] = xs.flatten
  | [] => by simp [Lib.join]
  | [x] => by simp [Lib.join]
  | x :: y :: xs => by
    have := join_flat (y :: xs)
    simp [Lib.join] at this ⊢
    exact this
theorem OJoin_any (bk c : Nat) (xs : List (List UInt8)) (w : World) (hcells : ∀ (j : Nat) x, xs[j]? = some x → w.cell? ⟨bk, j, none⟩ = some (.string (B x))) (h0 : xs ≠ []) (hcap : xs.length ≤ c) (hl : xs.flatten.length ≤ 35184372089000) (hn : xs.length ≤ 35184372089000) :
    Calls Tryd.prog 21 #[.slice (some ⟨bk, 0, none⟩) xs.length c] w fun e w' => e = .returned (.string (B xs.flatten)) ∧ Below w.heap.size w w' := by
  have hbk : bk < w.heap.size := by
    obtain ⟨x, l, rfl⟩ := List.exists_cons_of_ne_nil h0
    exact World.block_lt_of_cell? _ _ (hcells 0 x rfl)
  have hm : (xs.map B).map (·.data.toList) = xs := by
    rw [List.map_map]
    conv => rhs; rw [← List.map_id xs]
    exact List.map_congr_left fun x _ => B_data x
  have hj : Calls Tryd.prog 34 #[.slice (some ⟨bk, 0, none⟩) xs.length c, .string ⟨#[]⟩] w fun e w' => e = .returned (.string (B xs.flatten)) ∧ Below w.heap.size w w' := by
    have hq := Tryd.strings_Join bk 0 c (xs.map B) ⟨#[]⟩ w (by
      intro j x hx
      rw [List.getElem?_map] at hx
      obtain ⟨y, hy, rfl⟩ := Option.map_eq_some_iff.1 hx
      rw [Nat.zero_add]
      exact hcells j y hy) hbk (by rw [List.length_map]; omega) (by rw [List.length_map]; exact hcap) (by
        rw [hm]
        show (Lib.join xs []).length ≤ _
        rw [join_flat]; omega)
    rw [List.length_map, hm] at hq
    have e : Lib.join xs (⟨#[]⟩ : ByteArray).data.toList = xs.flatten := join_flat xs
    rw [e] at hq
    exact hq
  go_enter Tryd.func21, Tryd.ntmps21
  go_wp2_with (go_at_call 34; refine hj.mono ?_; rintro e w1 ⟨rfl, hb1⟩)
  go_ret
  exact ⟨rfl, hb1⟩
/-- A new box of three cells stands while what lies above it turns. -/
theorem bx3 {w wr : World} {T : TypeId} {a b c : Value} (hb : Below (w.alloc (.cells #[a, b, c] T)).heap.size (w.alloc (.cells #[a, b, c] T)) wr) :
    wr.cell? ⟨w.heap.size, 0, none⟩ = some a ∧ wr.cell? ⟨w.heap.size, 1, none⟩ = some b ∧ wr.cell? ⟨w.heap.size, 2, none⟩ = some c ∧ wr.frozen? ⟨w.heap.size, 0, none⟩ = false ∧ wr.frozen? ⟨w.heap.size, 1, none⟩ = false ∧ wr.frozen? ⟨w.heap.size, 2, none⟩ = false ∧ w.heap.size < wr.heap.size := by
  have h1 := hb.size
  simp only [World.size_alloc] at h1
  have hl : w.heap.size < (w.alloc (.cells #[a, b, c] T)).heap.size := by simp
  have e := heap_alloc_new w (.cells #[a, b, c] T)
  refine ⟨?_, ?_, ?_, ?_, ?_, ?_, by omega⟩
  · rw [hb.cell (p := ⟨w.heap.size, 0, none⟩) hl, cell_of_row _ w.heap.size 0 _ T (0, 0) e]; rfl
  · rw [hb.cell (p := ⟨w.heap.size, 1, none⟩) hl, cell_of_row _ w.heap.size 1 _ T (0, 0) e]; rfl
  · rw [hb.cell (p := ⟨w.heap.size, 2, none⟩) hl, cell_of_row _ w.heap.size 2 _ T (0, 0) e]; rfl
  · rw [hb.frozen (p := ⟨w.heap.size, 0, none⟩) hl, frozen_of_row _ w.heap.size 0 _ T e]
  · rw [hb.frozen (p := ⟨w.heap.size, 1, none⟩) hl, frozen_of_row _ w.heap.size 1 _ T e]
  · rw [hb.frozen (p := ⟨w.heap.size, 2, none⟩) hl, frozen_of_row _ w.heap.size 2 _ T e]
def nMark : List UInt8 := [109, 97, 114, 107]
theorem Text_any (n s : ByteArray) (w : World) :
    Calls Tryd.prog 27 #[.string n, .string s] w fun e w' => e = .returned (.agg #[.bool false, .string n, .string s]) ∧ Below w.heap.size w w' := by
  go_enter Tryd.func27, Tryd.ntmps27
  go_wp2_with fail
  refine bodyPost_ret (v := .agg #[.bool false, .string n, .string s]) (by simp [results, Tryd.results27, go_sem]) rfl ⟨rfl, ?_⟩
  exact (Below.refl _ w).alloc (Nat.le_refl _) _
theorem Mark_any (bk c : Nat) (xs : List (List UInt8)) (w : World) (hcells : ∀ (j : Nat) x, xs[j]? = some x → w.cell? ⟨bk, j, none⟩ = some (.string (B x))) (h0 : xs ≠ []) (hcap : xs.length ≤ c) (hl : xs.flatten.length ≤ 35184372089000) (hn : xs.length ≤ 35184372089000) :
    Calls Tryd.prog 26 #[.slice (some ⟨bk, 0, none⟩) xs.length c] w fun e w' => e = .returned (.agg #[.bool true, .string (B nMark), .string (B xs.flatten)]) ∧ Below w.heap.size w w' := by
  have hbk : bk < w.heap.size := by
    obtain ⟨x, l, rfl⟩ := List.exists_cons_of_ne_nil h0
    exact World.block_lt_of_cell? _ _ (hcells 0 x rfl)
  have hj := fun (o : Obj) => OJoin_any bk c xs (w.alloc o) (fun j x hx => (World.cell?_alloc_lt w o _ hbk).trans (hcells j x hx)) h0 hcap hl hn
  go_enter Tryd.func26, Tryd.ntmps26
  go_wp2_with (go_at_call 21; refine (hj _).mono ?_; rintro e w1 ⟨rfl, hb1⟩; have hz1 := sz_a1 hb1; obtain ⟨c0, c1, c2, f0, f1, f2, hlt⟩ := bx3 hb1)
  refine bodyPost_ret (v := .agg #[.bool true, .string (B nMark), .string (B xs.flatten)]) (by simp [results, Tryd.results26, go_sem, c0, c1, c2]; rfl) rfl ⟨rfl, ?_⟩
  exact (((below_a1 hb1).setCell (Nat.le_refl _) _).setCell (Nat.le_refl _) _).setCell (Nat.le_refl _) _
end Go.Proofs.YtlcgfgbdehdndaaDoor
