/- Where ssa's state lies; contract of (*script).format; condition: at most 100,000 bytes. -/
import Derived.Test.YtlcgfgbdehdndaaDoorVD
import Derived.Test.YtlcgfgbdehdndaaDoorVW
import Derived.Test.YtlcgfgbdehdndaaDoorLin
import Derived.Lib.SplitLaws
set_option maxRecDepth 100000
set_option maxHeartbeats 4000000
namespace Go.Proofs.YtlcgfgbdehdndaaDoor
open Go Go.RowKit

def ML (w : World) : Prop := ∃ m : Int, w.cell? ⟨0, 0, none⟩ = some (.int .i64 m)
theorem ML_lt {w : World} (h : ML w) : 0 < w.heap.size := by
  obtain ⟨m, h⟩ := h
  exact World.block_lt_of_cell? _ _ h
theorem ML_heap {w w' : World} (h : ML w) (hb : w'.heap[0]? = w.heap[0]?) : ML w' := by
  obtain ⟨m, h⟩ := h
  exact ⟨m, (World.cell?_of_block hb).trans h⟩
def vS (x : List UInt8) : Value := .string (B x)
def StS (C : Nat) (st : Ss) (w : World) : Prop := ∃ told v, w.heap[C]? = some (.cells #[.bool st.1, .bool told, v] 39 (0, 0)) ∧ st.2.length ≤ 200000 ∧
  (st.2 = [] ∧ told = false ∧ v = .slice none 0 0 ∨ st.2 ≠ [] ∧ told = true ∧ ∃ D, v = .slice (some ⟨D, 0, none⟩) st.2.length st.2.length ∧ D ≠ C ∧ w.heap[D]? = some (.cells (st.2.map vS).toArray 9 (0, 0))) ∧ 0 < C ∧ ML w
theorem heap_lt {w : World} {k : Nat} {o : Obj} (h : w.heap[k]? = some o) : k < w.heap.size := (Array.getElem?_eq_some_iff.1 h).1
theorem StS.grown {C : Nat} {st : Ss} {w w' : World} {row : Option Nat} (h : StS C st w) (hg : w.grownBy w' row) (hr : ∀ b, row = some b → C < b ∧ ∃ cs fz, w.heap[b]? = some (.cells cs 54 fz)) : StS C st w' := by
  obtain ⟨told, v, h1, h2, h3, h4, h5⟩ := h
  have hne : ∀ k cs, w.heap[k]? = some (.cells cs 9 (0, 0)) → some k ≠ row := fun k cs hk e => by
    obtain ⟨_, cs', fz, h6⟩ := hr k e.symm
    rw [hk] at h6
    injection h6 with h6
    injection h6 with _ h6 _
    exact absurd h6 (by decide)
  have hC : some C ≠ row := fun e => by
    have := (hr C e.symm).1
    omega
  refine ⟨told, v, by rw [hg.block C (heap_lt h1) hC]; exact h1, h2, ?_, h4, ?_⟩
  · rcases h3 with h3 | ⟨a, b, D, c, d, e⟩
    · exact .inl h3
    · exact .inr ⟨a, b, D, c, d, by rw [hg.block D (heap_lt e) (hne _ _ e)]; exact e⟩
  · exact ML_heap h5 (hg.block _ (ML_lt h5) fun e => by have := (hr _ e.symm).1; omega)
theorem StS.below {C : Nat} {st : Ss} {w w' : World} (h : StS C st w) (hb : Below w.heap.size w w') : StS C st w' :=
  h.grown (row := none) ⟨hb.os, hb.tape, hb.output, hb.size, fun k hk _ => hb.block k hk⟩ (fun b h => by cases h)
theorem vs_of (L : List ByteArray) : L.map Value.string = (L.map (·.data.toList)).map vS := by
  rw [List.map_map]
  refine List.map_congr_left fun x _ => ?_
  show Value.string x = .string (B x.data.toList)
  rw [← B_of]
theorem split_vs (k : Nat) (s : ByteArray) : (Lib.splitB ⟨#[44]⟩ 0 k s).map Value.string = (cutK k s.data.toList).map vS := by
  rw [vs_of, Lib.splitB_data]; rfl
theorem split_len (k : Nat) (s : ByteArray) : (Lib.splitB ⟨#[44]⟩ 0 k s).length = (cutK k s.data.toList).length := by
  have := congrArg List.length (split_vs k s)
  simpa using this
theorem cut_count : ∀ (f : Nat) (s : List UInt8), s.length ≤ f → cutK (Lib.count s [44]) s = cutK s.length s ∧ (cutK s.length s).length = Lib.count s [44] + 1
  | f, s, hf => by
    rcases com_cases s with ⟨h1, h2⟩ | ⟨a, r, rfl, h1, h2⟩
    · rw [Lib.count_miss h2, cutK_no h1, cutK_no h1]; exact ⟨rfl, rfl⟩
    · simp only [List.length_append, List.length_cons] at hf
      obtain ⟨g, rfl⟩ : ∃ g, f = g + 1 := ⟨f - 1, by omega⟩
      have hc := Lib.count_hit (sub := [44]) (by simp) h2
      have hd : (a ++ 44 :: r).drop (a.length + [(44 : UInt8)].length) = r := by
        rw [show a ++ 44 :: r = (a ++ [44]) ++ r by simp, show a.length + [(44 : UInt8)].length = (a ++ [44]).length by simp, List.drop_left]
      rw [hd] at hc
      obtain ⟨i1, i2⟩ := cut_count g r (by omega)
      have hl : (a ++ 44 :: r).length = (a.length + r.length) + 1 := by simp; omega
      rw [hc, hl, Nat.add_comm 1, cutK_com h1, cutK_com h1, i1, cutK_more (a.length + r.length) r.length r (by omega) (Nat.le_refl _)]
      refine ⟨rfl, ?_⟩
      rw [List.length_cons, i2]
termination_by f _ _ => f
theorem cutK_mem : ∀ (k : Nat) (s x : List UInt8), x ∈ cutK k s → x.length ≤ s.length
  | 0, s, x, h => by simp [cutK_zero] at h; rw [h]; exact Nat.le_refl _
  | k + 1, s, x, h => by
    rcases com_cases s with ⟨h1, _⟩ | ⟨a, r, rfl, h1, _⟩
    · rw [cutK_no h1] at h; simp at h; rw [h]; exact Nat.le_refl _
    · rw [cutK_com h1] at h
      simp only [List.length_append, List.length_cons]
      rcases List.mem_cons.1 h with rfl | h
      · omega
      · have := cutK_mem k r x h; omega
theorem Split_any (s : ByteArray) (hs : s.size ≤ 100000) (w : World) (hm : ML w) :
    Calls Tryd.prog 41 #[.string s, .string ⟨#[44]⟩] w fun e w' => e = .returned (.slice (some ⟨w.heap.size, 0, none⟩) (cutK s.size s.data.toList).length (cutK s.size s.data.toList).length) ∧ w' = w.alloc (.cells ((cutK s.size s.data.toList).map vS).toArray 9) := by
  obtain ⟨m, hm⟩ := hm
  have h := Tryd.strings_Split s ⟨#[44]⟩ m w (by omega) hm (by decide)
  obtain ⟨h1, h2⟩ := cut_count _ s.data.toList (Nat.le_refl _)
  have hc : Lib.countB s ⟨#[44]⟩ = Lib.count s.data.toList [44] := rfl
  rw [hc, split_vs, h1, ← h2, len_data] at h
  exact h
def trmL (x : List UInt8) : List UInt8 := Lib.trimB x 32
theorem Trim_any (x : List UInt8) (hx : x.length ≤ 100000) (w : World) :
    Calls Tryd.prog 42 #[.string (B x), .string ⟨#[32]⟩] w fun e w' => e = .returned (.string (B (trmL x))) ∧ ∃ n, w' = w.drewN n := by
  refine (Tryd.strings_Trim_one (B x) 32 (by decide) w (by rw [B_size]; omega)).mono ?_
  rintro e w' ⟨rfl, h⟩
  rw [B_data]
  refine ⟨rfl, ?_⟩
  rcases h with rfl | rfl
  · exact ⟨0, rfl⟩
  · exact ⟨1, rfl⟩
/-- How far the loop has come. -/
def FmRel (C D : Nat) (ev : Bool) (ps : List (List UInt8)) (w0 : World) (i : Value) (wr : World) : Prop := ∃ k : Nat, k ≤ ps.length ∧ i = .int .i64 k ∧ But C w0.heap.size w0 wr ∧
  wr.heap[C]? = some (.cells #[.bool ev, .bool true, .slice (some ⟨D, 0, none⟩) ps.length ps.length] 39 (0, 0)) ∧ wr.heap[D]? = some (.cells (((ps.take k).map trmL ++ ps.drop k).map vS).toArray 9 (0, 0))
theorem fm_step {ps : List (List UInt8)} {k : Nat} {x : List UInt8} (hx : ps[k]? = some x) : (((ps.take k).map trmL ++ ps.drop k).map vS).toArray.setIfInBounds k (vS (trmL x)) = (((ps.take (k + 1)).map trmL ++ ps.drop (k + 1)).map vS).toArray := by
  obtain ⟨hk, rfl⟩ := List.getElem?_eq_some_iff.1 hx
  have hl : ((ps.take k).map trmL).length = k := by simp; omega
  rw [List.setIfInBounds_toArray]
  congr 1
  rw [List.map_append, List.drop_eq_getElem_cons hk, List.map_cons, List.set_append_right _ _ (by simp; omega)]
  simp only [List.length_map, List.length_take, Nat.min_eq_left (Nat.le_of_lt hk), Nat.sub_self, List.set_cons_zero]
  rw [List.take_add_one, List.getElem?_eq_getElem hk, Option.toList_some, List.map_append (f := trmL), List.append_assoc, List.map_append (f := vS)]
  rfl
theorem fm_cell {ps : List (List UInt8)} {k : Nat} {x : List UInt8} (hx : ps[k]? = some x) {w : World} {D : Nat} (h : w.heap[D]? = some (.cells (((ps.take k).map trmL ++ ps.drop k).map vS).toArray 9 (0, 0))) : w.cell? ⟨D, k, none⟩ = some (vS x) := by
  obtain ⟨hk, rfl⟩ := List.getElem?_eq_some_iff.1 hx
  rw [cell_of_row _ D k _ 9 (0, 0) h]
  simp only [List.getElem?_toArray]
  rw [List.getElem?_map, List.getElem?_append_right (by simp; omega)]
  simp only [List.length_map, List.length_take, Nat.min_eq_left (Nat.le_of_lt hk), Nat.sub_self, List.getElem?_drop, Nat.add_zero]
  rw [List.getElem?_eq_getElem hk]; rfl
theorem Format_any (C : Nat) (st : Ss) (s : ByteArray) (hs : s.size ≤ 100000) (w : World) (h : StS C st w) :
    Calls Tryd.prog 30 #[.pointer (some ⟨C, 0, none⟩), .string s] w fun e w' => e = .returned (.tuple #[]) ∧ StS C (st.1, fmtL s.data.toList) w' ∧ But C w.heap.size w w' := by
  obtain ⟨told, v, h1, _, _, h4, h5⟩ := h
  have hClt := heap_lt h1
  have hl0 := len_data s
  have hfl : fmtL s.data.toList = (cutK s.size s.data.toList).map trmL := by unfold fmtL; rw [hl0]; rfl
  have hle := (cutK_le s.size s.data.toList).2
  have hne := cutK_ne s.size s.data.toList
  have hml := cutK_mem s.size s.data.toList
  rw [hl0] at hle
  have hsp := fun w hm => Split_any s hs w hm
  generalize hP : (fun (e : Ending) (w' : World) => e = Ending.returned (.tuple #[]) ∧ StS C (st.1, fmtL s.data.toList) w' ∧ But C w.heap.size w w') = P
  have HF : Hid (∀ w', StS C (st.1, (cutK s.size s.data.toList).map trmL) w' → But C w.heap.size w w' → P (.returned (.tuple #[])) w') := Lib.hid fun w' a b => by rw [← hP, hfl]; exact ⟨rfl, a, b⟩
  clear hP
  have Hne := Lib.hid hne
  have Hml := Lib.hid hml
  clear hfl hne hml
  generalize cutK s.size s.data.toList = ps at *
  have c1 : w.cell? ⟨C, 1, none⟩ = some (.bool told) := by rw [cell_of_row _ C 1 _ _ (0, 0) h1]; rfl
  have f1 := frozen_of_row _ C 1 _ _ h1
  have g1 : (w.setCell ⟨C, 1, none⟩ (.bool true)).heap[C]? = some (.cells #[.bool st.1, .bool true, v] 39 (0, 0)) := heap_setCell_same w C 1 _ _ (.bool true) h1
  have b1 : But C w.heap.size w (w.setCell ⟨C, 1, none⟩ (.bool true)) := (But.refl C _ w).setCell (.inr rfl) _
  have m1 : ML (w.setCell ⟨C, 1, none⟩ (.bool true)) := ML_heap h5 (Below.heap_setCell _ _ _ _ (by simp; omega))
  have z1 : (w.setCell ⟨C, 1, none⟩ (.bool true)).heap.size = w.heap.size := by simp
  clear h1
  have H5 := Lib.hid h5
  clear h5
  have hsp2 : Calls Tryd.prog 41 #[.string s, .string ⟨#[44]⟩] (w.setCell ⟨C, 1, none⟩ (.bool true)) fun e w2 => e = .returned (.slice (some ⟨w.heap.size, 0, none⟩) ps.length ps.length) ∧ w2.heap[C]? = some (.cells #[.bool st.1, .bool true, v] 39 (0, 0)) ∧ w2.heap[w.heap.size]? = some (.cells (ps.map vS).toArray 9 (0, 0)) ∧ But C w.heap.size w w2 ∧ ML w2 := by
    refine (hsp _ m1).mono ?_
    rintro e w2 ⟨rfl, rfl⟩
    rw [z1]
    refine ⟨rfl, heap_more g1 _, ?_, b1.alloc (by omega) _, ML_heap m1 (Below.heap_alloc _ _ _ (ML_lt m1))⟩
    have := heap_alloc_new (w.setCell ⟨C, 1, none⟩ (.bool true)) (.cells (ps.map vS).toArray 9)
    rwa [z1] at this
  clear hsp g1 b1 m1
  go_enter Tryd.func30, Tryd.ntmps30
  go_wp2_with (go_at_call 41; refine hsp2.mono ?_; rintro e w2 ⟨rfl, g2, d2, b2, m2⟩; have c2 : w2.cell? ⟨C, 2, none⟩ = some v := (by rw [cell_of_row _ C 2 _ _ (0, 0) g2]; rfl); have f2 := frozen_of_row _ C 2 _ _ g2; have g3 : (w2.setCell ⟨C, 2, none⟩ (.slice (some ⟨w.heap.size, 0, none⟩) ps.length ps.length)).heap[C]? = some (.cells #[.bool st.1, .bool true, .slice (some ⟨w.heap.size, 0, none⟩) ps.length ps.length] 39 (0, 0)) := heap_setCell_same w2 C 2 _ _ _ g2; have d3 : (w2.setCell ⟨C, 2, none⟩ (.slice (some ⟨w.heap.size, 0, none⟩) ps.length ps.length)).heap[w.heap.size]? = some (.cells (ps.map vS).toArray 9 (0, 0)) := (by rw [Below.heap_setCell _ _ _ _ (by show w.heap.size ≠ C; omega)]; exact d2); have c3 : (w2.setCell ⟨C, 2, none⟩ (.slice (some ⟨w.heap.size, 0, none⟩) ps.length ps.length)).cell? ⟨C, 2, none⟩ = some (.slice (some ⟨w.heap.size, 0, none⟩) ps.length ps.length) := (by rw [cell_of_row _ C 2 _ _ (0, 0) g3]; rfl); have b3 := b2.setCell (p := ⟨C, 2, none⟩) (.inr rfl) (.slice (some ⟨w.heap.size, 0, none⟩) ps.length ps.length); have m3 : ML (w2.setCell ⟨C, 2, none⟩ (.slice (some ⟨w.heap.size, 0, none⟩) ps.length ps.length)) := ML_heap m2 (Below.heap_setCell _ _ _ _ (by show _ ≠ C; omega)))
  clear hsp2 g2 d2 b2 c2 f2 m2 c1 f1
  go_loopw [19] (fun i wr => FmRel C w.heap.size st.1 ps w i wr) (fun i _ => ps.length - (intOf i).toNat)
  case atStart => exact ⟨0, by omega, rfl, b3, g3, by simpa using d3⟩
  case round =>
    obtain ⟨k, hk, rfl, hb, hg, hd⟩ := hrel
    have hz := hb.size
    by_cases hlt : k < ps.length
    · obtain ⟨x, hx⟩ : ∃ x, ps[k]? = some x := ⟨_, List.getElem?_eq_getElem hlt⟩
      have k1 := fm_cell hx hd
      have k2 : wr.cell? ⟨C, 2, none⟩ = some (.slice (some ⟨w.heap.size, 0, none⟩) ps.length ps.length) := by rw [cell_of_row _ C 2 _ _ (0, 0) hg]; rfl
      have k3 := frozen_of_row _ w.heap.size k _ _ hd
      have htr := Trim_any x (by have := Hml.out x (List.mem_of_getElem? hx); rw [hl0] at this; omega)
      unfold vS at k1
      go_wp2_with fail
      refine wp_region_lin (fun w' => w'.cell? ⟨C, 2, none⟩ = some (.slice (some ⟨w.heap.size, 0, none⟩) ps.length ps.length)) [(0, true), (1, true), (2, true), (3, true), (4, true), (5, true), (6, false), (7, true), (8, false)] (by kernel_rfl) (by kernel_rfl) (by kernel_rfl) (Nat.le_of_ble_eq_true rfl) (fun _ _ d _ _ h => by cases d <;> exact h) k2 ?_
      repeat (first
        | (refine' lin_pure rfl (by rfl) _ (fun W hSw => _) _; rotate_left; (go_simp; try with_reducible rfl); try simp only [Act.put, List.setIfInBounds_toArray, List.set_cons_zero, List.set_cons_succ])
        | (refine lin_eff rfl (by rfl) (fun K hK => ?_); go_simp; (go_at_call 42; refine (htr _).mono ?_; rintro e w4 ⟨rfl, n4, hw4⟩); go_wp2_with fail; refine hK.out _ _ (by rw [hw4]; exact k2) ?_; clear hK K; try simp only [Act.put, List.setIfInBounds_toArray, List.set_cons_zero, List.set_cons_succ]))
      refine lin_eff rfl (by rfl) (fun K hK => ?_)
      go_simp
      refine (htr _).mono ?_
      rintro e w4 ⟨rfl, n4, rfl⟩
      go_wp2_with fail
      refine hK.out _ _ (by exact k2) ?_
      clear hK K
      try simp only [Act.put, List.setIfInBounds_toArray, List.set_cons_zero, List.set_cons_succ]
      refine' lin_pure rfl (by rfl) _ (fun W hSw => _) _
      rotate_left
      · go_simp
        try with_reducible rfl
      try simp only [Act.put, List.setIfInBounds_toArray, List.set_cons_zero, List.set_cons_succ]
      have hd' : (wr.drewN (1 + n4)).heap[w.heap.size]? = some (.cells (((ps.take k).map trmL ++ ps.drop k).map vS).toArray 9 (0, 0)) := hd
      have hg' : (wr.drewN (1 + n4)).heap[C]? = some (.cells #[.bool st.1, .bool true, .slice (some ⟨w.heap.size, 0, none⟩) ps.length ps.length] 39 (0, 0)) := hg
      have k1' : (wr.drewN (1 + n4)).cell? ⟨w.heap.size, k, none⟩ = some (.string (B x)) := k1
      have k3' : (wr.drewN (1 + n4)).frozen? ⟨w.heap.size, k, none⟩ = false := k3
      have hb' : But C w.heap.size w (wr.drewN (1 + n4)) := ⟨hb.os, hb.tape, hb.output, hb.size, hb.block⟩
      generalize wr.drewN (1 + n4) = W at *
      refine lin_eff rfl (by rfl) (fun K hK => ?_)
      go_simp
      go_wp2_with fail
      refine hK.out _ _ ?_ ?_
      · rw [World.cell?_setCell_other _ _ _ _ (fun e => by injection e; omega), cell_of_row _ C 2 _ _ (0, 0) hg']; rfl
      clear hK K
      try simp only [Act.put, List.setIfInBounds_toArray, List.set_cons_zero, List.set_cons_succ]
      refine lin_nil ?_
      go_wp2_with fail
      go_roundw
      case rel =>
        refine ⟨k + 1, by omega, by simp, hb'.setCell (.inl (Nat.le_refl _)) _, ?_, ?_⟩
        · rw [Below.heap_setCell _ _ _ _ (by show C ≠ w.heap.size; omega)]; exact hg'
        · rw [heap_setCell_same _ _ _ _ _ _ hd', show Value.string (B (trmL x)) = vS (trmL x) from rfl, fm_step hx]
      case measure => simp [intOf]; omega
    · obtain rfl : k = ps.length := by omega
      simp only [List.take_length, List.drop_length, List.append_nil] at hd
      go_wp2_with fail
      refine bodyPost_ret (v := .tuple #[]) (by simp [results, Tryd.results30, go_sem]) rfl ?_
      refine HF.out _ ?_ hb
      have hl : (ps.map trmL).length = ps.length := by simp
      refine ⟨true, .slice (some ⟨w.heap.size, 0, none⟩) ps.length ps.length, hg, by show (ps.map trmL).length ≤ 200000; omega, .inr ⟨by show ps.map trmL ≠ []; simpa using Hne.out, rfl, w.heap.size, by show _ = Value.slice _ (ps.map trmL).length (ps.map trmL).length; rw [hl], by omega, hd⟩, h4, ?_⟩
      exact ML_heap H5.out (hb.block _ (ML_lt H5.out) (by omega))
end Go.Proofs.YtlcgfgbdehdndaaDoor
