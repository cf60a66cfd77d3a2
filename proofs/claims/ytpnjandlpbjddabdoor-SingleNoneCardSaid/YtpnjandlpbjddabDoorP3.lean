/- Contracts: point.Points: a text's signs. -/
import Derived.Test.YtpnjandlpbjddabDoorP2
import Derived.Lib.OthersKept
namespace Go.Proofs.YtpnjandlpbjddabDoor
open Go Go.RowKit

theorem own_iterAt {w : World} {base : Nat} {e : TypeId} {size : Nat} {v : Value} {n : Nat} {xs : List Value} (h : w.ownsRow base e size v n xs) {K : Nat} {s : ByteArray} {i : Nat} (hk : w.heap[K]? = some (.stringIter s i)) (j : Nat) :
    (w.iterAt K s j).ownsRow base e size v n xs := by
  refine ⟨h.1, ?_⟩
  rcases h.2 with hn | ⟨g, cap, cur, hv, hb, hg, rest⟩
  · exact .inl hn
  · refine .inr ⟨g, cap, cur, hv, hb, ?_, rest⟩
    have hne : g ≠ K := by
      rintro rfl
      rw [hg] at hk
      cases hk
    rw [Lib.iterAt_other _ _ _ _ _ hne]
    exact hg
theorem iter_ne {w : World} {base : Nat} {e : TypeId} {size : Nat} {v : Value} {n : Nat} {xs : List Value} (h : w.ownsRow base e size v n xs) {K : Nat} {s : ByteArray} {i : Nat} (hk : w.heap[K]? = some (.stringIter s i)) : some K ≠ v.ownBlock := by
  rcases h.2 with ⟨rfl, _⟩ | ⟨g, cap, cur, rfl, hb, hg, rest⟩
  · simp [Value.ownBlock]
  · intro he
    have : K = g := by simpa [Value.ownBlock] using he
    subst this
    rw [hg] at hk
    cases hk
theorem iterPos_of {w : World} {K : Nat} {s : ByteArray} {i : Nat} (hk : w.heap[K]? = some (.stringIter s i)) : w.iterPos K = i := by
  simp [World.iterPos, hk]
theorem iter_lt {w : World} {K : Nat} {s : ByteArray} {i : Nat} (hk : w.heap[K]? = some (.stringIter s i)) : K < w.heap.size := (Array.getElem?_eq_some_iff.1 hk).1

/-- What a range over a string hands over at a sign. -/
theorem next_step {P : Program} {s : ByteArray} {ps : List Int} {k i n : Nat} {p : Int} (h : Step s ps k i p n) (hi : i < s.size) (w : World) (K : Nat) (hk : w.heap[K]? = some (.stringIter s i)) (ty : TypeId) :
    (Instr.next (.pointer (some ⟨K, 0, none⟩)) true ty).run P w = .ok (.tuple #[.bool true, .int .i64 i, .int .i32 p]) (w.iterAt K s (i + n)) := by
  obtain ⟨⟨t, ht⟩, hn, _, hs⟩ := h
  rw [Lib.run_next_any_at w K s i ty hk hi, decode_drop, ht, decL_enc hs, hn]
  have e : ((p.toNat : Nat) : Int) = p := by have := scalarB_iff.1 hs; omega
  simp only [e]

def PointsRel (ps : List Int) (s : ByteArray) (w0 : World) (O : Obj) (K : Nat) (v : Value) (wr : World) : Prop :=
  ∃ k i : Nat, Run ps k i ∧ wr.heap[K]? = some (.stringIter s i) ∧ wr.ownsRow (w0.heap.size + 1) 21 1 v k ((ps.take k).map (Value.int .i32)) ∧ Below (w0.heap.size + 1) (w0.alloc O) wr

theorem own_spot {w : World} {base : Nat} {e : TypeId} {size n : Nat} {ad : Addr} {l c : Nat} {xs : List Value} (h : w.ownsRow base e size (.slice (some ad) l c) n xs) : ad.spot = none := by
  rcases h.2 with ⟨h, _⟩ | ⟨g, cap, cur, h, _⟩
  · cases h
  · injection h with h
    injection h with h
    subst h; rfl
theorem own_heap {w : World} {base : Nat} {e : TypeId} {n : Nat} {ad : Addr} {l c : Nat} {zs : List Int} {k : IntKind} (h : w.ownsRow base e 1 (.slice (some ad) l c) n (zs.map (Value.int k))) : ∃ cs fr, w.heap[ad.block]? = some (.cells cs e fr) ∧ ∀ j, j < zs.length → cs[ad.off + j]? = some (.int k (zs.getD j 0)) := by
  have hl : zs.length = n := by simpa using h.1
  rcases h.2 with ⟨h, _⟩ | ⟨g, cap, cur, h, _, hg, hn, _, hs, ht⟩
  · cases h
  · injection h with h
    injection h with h
    subst h
    refine ⟨cur, (0, 0), hg, fun j hj => ?_⟩
    have h1 : (cur.toList.take (n * 1))[j]? = (zs.map (Value.int k))[j]? := by rw [ht]
    rw [List.getElem?_take_of_lt (by omega), List.getElem?_map, List.getElem?_eq_getElem hj, Array.getElem?_toList] at h1
    rw [Nat.zero_add, h1, List.getD, List.getElem?_eq_getElem hj]; rfl
theorem Points_own (s : ByteArray) (ps : List Int) (hg : Good s ps) (hs : s.size ≤ 35184372088000) (w : World) (hT : Tabs w) :
    Calls Tryd.prog 59 #[.string s] w fun e w' => ∃ A c, e = .returned (.tuple #[.slice A ps.length c, .agg #[.int .i64 0, .int .i64 0]]) ∧ ps.length ≤ c ∧ Nums w' w'.heap.size .i32 A ps ∧ (∀ ad, A = some ad → w.heap.size ≤ ad.block ∧ ad.spot = none ∧ ∃ cs fr, w'.heap[ad.block]? = some (.cells cs 21 fr) ∧ ∀ j, j < ps.length → cs[ad.off + j]? = some (.int .i32 (ps.getD j 0))) ∧ Below w.heap.size w w' := by
  obtain ⟨i0, hi, iz0, iz1, iz2⟩ := info_parts rune_info
  have hlen := hg.len
  have hp := hg.pre
  go_enter Tryd.func59, Tryd.ntmps59
  go_wp2_with (go_at_call 43; refine (scan_good s ps hg (by omega) _ (by first | exact hT | exact tabs_alloc hT _)).mono ?_; rintro e w1 ⟨rfl, hb1⟩; have hz1 := sz_a1 hb1; have HB1 := hb1.mono (B' := w.heap.size + 1) (by simp); obtain ⟨hc0, hc1, hf0, hf1, hlt1⟩ := box2 HB1)
  refine (Bad_any _ _ _).mono ?_
  rintro e w2 ⟨rfl, hb2⟩
  have hz2 := sz_a1 hb2
  have HB2 := (HB1.alloc (by omega) _).trans (hb2.mono (by simp; omega))
  clear hb1 hc0 hc1 hf0 hf1 hlt1 hb2
  go_wp2_with (at_make; refine wpList_make_own _ rfl _ _ 71 rfl (w.heap.size + 1) 21 i0 (.int .i32 0) 1 Tryd.underlying71 hi iz0 iz1 .i64 .i64 _ ps.length rfl rfl rfl (by rw [iz2]; omega) (by unfold maxLen; omega) (by omega) ?_; intro w3 hown hgrow)
  have HB3 := HB2.grown hgrow (by omega) (by simp)
  have hz3 := hgrow.size
  have hown' := hown.alloc (.stringIter s 0)
  have hit := World.iter_heap w3 s 0
  clear hown hgrow HB2 HB1
  go_loopw [6] (fun v wr => PointsRel ps s w (.cells #[.int .i64 0, .int .i64 0] 33) w3.heap.size v wr) (fun _ wr => s.size + 1 - wr.iterPos w3.heap.size)
  case atStart => exact ⟨0, 0, Run.zero _, hit, hown', HB3.alloc (by omega) _⟩
  case round =>
    obtain ⟨k, i, hrun, hK, hownk, hbk⟩ := hrel
    have hle := hrun.le hp
    have hKlt := iter_lt hK
    by_cases hk : k < ps.length
    · obtain ⟨p, n, hst, hrun', hn1, hn4, hin, hp0, hp1, _⟩ := hrun.step hp hk
      have hstep := fun ty => next_step (P := Tryd.prog) hst (by omega) wr w3.heap.size hK ty
      have hown1 := own_iterAt hownk hK (i + n)
      have hK1 := Lib.iterAt_heap wr w3.heap.size s i (i + n) hK
      have hb1 := Lib.below_iterAt hbk (k := w3.heap.size) (by omega) s (i + n)
      have hsz1 : (wr.iterAt w3.heap.size s (i + n)).heap.size = wr.heap.size := Lib.iterAt_size _ _ _ _
      have hpos := iterPos_of hK
      have hcell := cell_one_new (wr.iterAt w3.heap.size s (i + n)) (.int .i32 p) 21
      rw [hsz1] at hcell
      have hw4 : w.heap.size + 1 ≤ ((wr.iterAt w3.heap.size s (i + n)).alloc (.cells #[.int .i32 p] 21)).heap.size := by simp; omega
      have hnext : Hid ((ps.take (k + 1)).map (Value.int .i32) = (ps.take k).map (Value.int .i32) ++ [.int .i32 p]) := by
        rw [hst.snoc hk, List.map_append]; rfl
      have hK2 := Below.heap_alloc (wr.iterAt w3.heap.size s (i + n)) (.cells #[.int .i32 p] 21) w3.heap.size (by omega)
      rw [hK1] at hK2
      clear hown'
      go_wp2_with (at_builtin; refine wpList_append_own _ rfl _ _ 71 rfl (w.heap.size + 1) 21 i0 (.int .i32 0) 1 4 Tryd.underlying71 hi iz0 iz1 iz2 rfl (by decide) u6 k _ rfl (hown1.alloc _) ⟨wr.heap.size, 0, none⟩ 1 1 [.int .i32 p] rfl rfl hcell (by intro u hu; simp at hu; subst hu; rfl) (by unfold maxLen; omega) (by omega) hw4 ?_; intro v' w5 hown5 hg5 _)
      have hK5 := (hg5.block w3.heap.size (by simp; omega) (iter_ne hownk hK)).trans hK2
      rw [← hnext.out] at hown5
      have hb5 := below_grownOwn (hb1.alloc (by omega) (.cells #[.int .i32 p] 21)) (hown1.alloc _) hg5 hw4 (Nat.le_refl _)
      refine ⟨⟨k + 1, i + n, hrun', hK5, hown5, hb5⟩, ?_⟩
      rw [hpos, iterPos_of hK5]
      omega
    · have hk2 : k = ps.length := by omega
      subst hk2
      obtain ⟨hi, _, hie⟩ := hrun.end_ hp
      have hend := fun ty => Lib.run_next_end_at (P := Tryd.prog) wr w3.heap.size s i ty hK (by simp at hie; omega)
      obtain ⟨hc0, hc1, hf0, hf1, hlt1⟩ := box2 hbk
      rw [List.take_length] at hownk
      clear hown'
      go_wp2_with fail
      obtain ⟨A, c, hv, hcap, _, _⟩ := Nums.of_own hownk
      have hownF := ownsRow_setCell_below (ownsRow_setCell_below hownk (a := ⟨w.heap.size, 0, none⟩) (Nat.lt_succ_self _) (.int .i64 0)) (a := ⟨w.heap.size, 1, none⟩) (Nat.lt_succ_self _) (.int .i64 0)
      subst hv
      obtain ⟨A', c', hv', _, _, hnF⟩ := Nums.of_own hownF
      simp only [Value.slice.injEq] at hv'
      obtain ⟨rfl, _, _⟩ := hv'
      refine bodyPost_ret (v := .tuple #[.slice A ps.length c, .agg #[.int .i64 0, .int .i64 0]]) (by simp [results, Tryd.results59, go_sem, hc0, hc1]) rfl ⟨A, c, rfl, hcap, hnF, fun ad had => by subst had; have := (hownF.lt _ rfl).1; exact ⟨by omega, own_spot hownF, own_heap hownF⟩, ?_⟩
      exact (((((Below.refl _ w).alloc (Nat.le_refl _) _).trans (hbk.mono (by omega))).setCell (Nat.le_refl _) _).setCell (Nat.le_refl _) _)

theorem Points_good (s : ByteArray) (ps : List Int) (hg : Good s ps) (hs : s.size ≤ 35184372088000) (w : World) (hT : Tabs w) :
    Calls Tryd.prog 59 #[.string s] w fun e w' => ∃ A c, e = .returned (.tuple #[.slice A ps.length c, .agg #[.int .i64 0, .int .i64 0]]) ∧ ps.length ≤ c ∧ Nums w' w'.heap.size .i32 A ps ∧ Below w.heap.size w w' :=
  (Points_own s ps hg hs w hT).mono fun _ _ ⟨A, c, h1, h2, h3, _, h5⟩ => ⟨A, c, h1, h2, h3, h5⟩
theorem Points_bad (s : ByteArray) (n : Nat) (hg : BadAt s n) (hs : s.size ≤ 35184372088000) (w : World) (hT : Tabs w) :
    Calls Tryd.prog 59 #[.string s] w fun e w' => e = .returned (.tuple #[.slice none 0 0, .agg #[.int .i64 2, .int .i64 n]]) ∧ Below w.heap.size w w' := by
  go_enter Tryd.func59, Tryd.ntmps59
  go_wp2_with (go_at_call 43; refine (scan_bad s n hg (by omega) _ (by first | exact hT | exact tabs_alloc hT _)).mono ?_; rintro e w1 ⟨rfl, hb1⟩; have hz1 := sz_a1 hb1; have HB1 := hb1.mono (B' := w.heap.size + 1) (by simp); obtain ⟨hc0, hc1, hf0, hf1, hlt1⟩ := box2 HB1)
  refine (Bad_any _ _ _).mono ?_
  rintro e w2 ⟨rfl, hb2⟩
  have hz2 := sz_a1 hb2
  have HB2 := (HB1.alloc (by omega) _).trans (hb2.mono (by simp; omega))
  have hbx := box2 (hb2.mono (by simp))
  obtain ⟨hd0, hd1, he0, he1, hlt2⟩ := hbx
  clear hc0 hc1 hf0 hf1
  obtain ⟨hc0, hc1, hf0, hf1, hlt3⟩ := box2 HB2
  go_wp2_with fail
  go_region
  go_wp2_with fail
  refine bodyPost_ret (v := .tuple #[.slice none 0 0, .agg #[.int .i64 2, .int .i64 n]]) (by simp [results, Tryd.results59, go_sem, hc0, hc1]) rfl ⟨rfl, ?_⟩
  exact (((((Below.refl _ w).alloc (Nat.le_refl _) _).trans (HB2.mono (by omega))).setCell (Nat.le_refl _) _).setCell (Nat.le_refl _) _).drew
end Go.Proofs.YtpnjandlpbjddabDoor
