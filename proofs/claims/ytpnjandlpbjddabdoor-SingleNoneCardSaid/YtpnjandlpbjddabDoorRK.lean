/- Contract of a table's Pairs; condition: the table's rows stand by rising codes. -/
import Derived.Test.YtpnjandlpbjddabDoorRJ
set_option maxRecDepth 100000
set_option maxHeartbeats 4000000
namespace Go.Proofs.YtpnjandlpbjddabDoor
open Go Go.RowKit

theorem pair_info : (Tryd.prog.info? 43).map (fun i => (i.zero, i.size, i.bytes)) = some (some (.agg #[.int .i64 0, .int .i32 0]), 2, 16) := by kernel_rfl
def prV (x : Pr) : List Value := [.int .i64 (x.1 : Int), .int .i32 x.2]
theorem flat2_len (l : List Pr) : (l.flatMap prV).length = l.length * 2 := by
  induction l with
  | nil => rfl
  | cons a l ih => rw [List.flatMap_cons, List.length_append, ih, List.length_cons]; simp [prV]; omega
def upTo (rs : List (Rw × Sl)) (k : Nat) : List Pr := ((rs.take k).map (·.1)).flatMap prs
theorem upTo_len (rs : List (Rw × Sl)) (k : Nat) : (upTo rs k).length = szR (rs.take k) := szR_len _
theorem upTo_snoc (rs : List (Rw × Sl)) (k : Nat) (x : Rw × Sl) (h : rs[k]? = some x) : upTo rs (k + 1) = upTo rs k ++ prs x.1 := by
  unfold upTo
  rw [List.take_add_one, h]
  simp
theorem prs_take (r : Rw) (j : Nat) (h : j < r.2.1) : (prs r).take (j + 1) = (prs r).take j ++ [(r.1 + j, sgAt r j)] := by
  have : (prs r)[j]? = some (r.1 + j, sgAt r j) := by
    unfold prs
    rw [List.getElem?_map, List.getElem?_range h]; rfl
  rw [List.take_add_one, this]; rfl
def PaRel (rs : List (Rw × Sl)) (w0 : World) (v i : Value) (wr : World) : Prop := ∃ k : Nat, k ≤ rs.length ∧ i = .int .i64 k ∧ wr.ownsRow w0.heap.size 43 2 v (upTo rs k).length ((upTo rs k).flatMap prV) ∧ Below w0.heap.size w0 wr
def PiRel (L : List Pr) (x : Rw × Sl) (B5 : Nat) (w0 : World) (v c : Value) (wr : World) : Prop := ∃ j : Nat, j ≤ x.1.2.1 ∧ c = .int .i64 ((x.1.1 + j : Nat) : Int) ∧ wr.ownsRow w0.heap.size 43 2 v (L ++ (prs x.1).take j).length ((L ++ (prs x.1).take j).flatMap prV) ∧
  wr.heap[B5]? = some (.cells #[.int .i64 (x.1.1 : Int), .int .i64 (x.1.2.1 : Int), .int .i32 x.1.2.2.1, .slice x.2.1 x.2.2.1 x.2.2.2] 73 (0, 0)) ∧ Below w0.heap.size w0 wr
def PaPost (L : List Pr) (w0 : World) (e : Ending) (w' : World) : Prop := ∃ A c, e = .returned (.slice A L.length c) ∧ L.length ≤ c ∧ Reads w' w'.heap.size 2 A L.length (L.flatMap prV) ∧ Below w0.heap.size w0 w'
theorem two_new2 (w : World) (a b : Value) (T : TypeId) : ∀ j u, [a, b][j]? = some u → (w.alloc (.cells #[a, b] T)).cell? ((⟨w.heap.size, 0, none⟩ : Addr).add j) = some u := by
  intro j u hu
  rw [addr_eq rfl]
  show (w.alloc _).cell? ⟨w.heap.size, 0 + j, none⟩ = _
  rw [Nat.zero_add, cell_of_row _ w.heap.size j _ T (0, 0) (heap_alloc_new w _)]
  simpa using hu
theorem Pairs_any (A : Option Addr) (c : Nat) (rs : List (Rw × Sl)) (hn : rs.length ≤ 35184372089000) (w : World) (h : TbR w w.heap.size A rs) :
    Calls Tryd.prog 21 #[.agg #[.slice A rs.length c]] w (PaPost ((rs.map (·.1)).flatMap prs) w) := by
  have htot := h.total
  have hszs := fun o => Size_any A c rs hn (w.alloc o) ((h.below ((Below.refl _ _).alloc (Nat.le_refl _) o)).more (by simp))
  obtain ⟨i0, hi, iz0, iz1, iz2⟩ := info_parts pair_info
  have hall : upTo rs rs.length = (rs.map (·.1)).flatMap prs := by unfold upTo; rw [List.take_length]
  generalize hP : PaPost ((rs.map (·.1)).flatMap prs) w = P at *
  go_enter Tryd.func21, Tryd.ntmps21
  go_wp2_with (first | (go_at_call 39; refine (hszs _).mono ?_; rintro e w1 ⟨rfl, hb1⟩; have HB1 := below_a1 hb1; have hz1 := sz_a1 hb1; have q1 := heap_below (heap_alloc_new w (.cells #[.slice A rs.length c] 24)) hb1; have q2 := cell_of_row _ _ 0 _ _ _ q1; simp at q2) | (at_make; refine wpList_make_own _ rfl _ _ 39 rfl w.heap.size 43 i0 (.agg #[.int .i64 0, .int .i32 0]) 2 Tryd.underlying39 hi iz0 iz1 .i64 .i64 _ (szR rs) rfl rfl rfl (by rw [iz2]; omega) (by unfold maxLen; omega) (by omega) ?_; intro w3 hown hgrow; have hz3 := hgrow.size; have q3 := (hgrow.block w.heap.size (by omega) (by simp)).trans q1; have q4 := cell_of_row _ _ 0 _ _ _ q3; simp at q4; have HB3 := HB1.grown hgrow (by omega) (fun k hk => by cases hk)))
  clear q1 q2 q3 q4 hszs hb1 hgrow
  go_loopw [3, 13] (fun v i wr => PaRel rs w v i wr) (fun _ i _ => rs.length - (intOf i).toNat)
  case atStart => exact ⟨0, by omega, rfl, hown, HB3⟩
  case round =>
    obtain ⟨k, hk, rfl, ho, hb⟩ := hrel
    have hz := hb.size
    by_cases hlt : k < rs.length
    · obtain ⟨x, hx⟩ : ∃ x, rs[k]? = some x := ⟨_, List.getElem?_eq_getElem hlt⟩
      obtain ⟨ad, rfl, hadb, y0, y1, y2, y3, hok, hsg, _⟩ := (h.below hb).row hx
      have hsn := upTo_snoc rs k x hx
      have hlen : (upTo rs k).length + x.1.2.1 ≤ 1048576 := by
        have := congrArg List.length hsn
        rw [List.length_append, prs_len, upTo_len rs (k + 1)] at this
        have := szR_take rs (k + 1)
        omega
      have Ho := Lib.hid ho
      have Hsn := Lib.hid hsn
      clear ho hsn
      go_wp2_with fail
      clear hall
      have hsgw := (h.2.1 x (List.mem_of_getElem? hx)).2
      have hend := fun v W => End_any x.1.1 x.1.2.1 x.1.2.2.1 v hok.2.1 W
      have ok1 := hok.1
      have ok2 := hok.2.1
      clear y0 y1 y2 y3
      go_loopw [3, 6] (fun v c2 wr2 => PiRel (upTo rs k) x wr.heap.size w v c2 wr2) (fun _ c2 _ => x.1.1 + x.1.2.1 - (intOf c2).toNat)
      case atStart => exact ⟨0, by omega, by simp, by simpa using Ho.out.alloc _, heap_alloc_new wr _, hb.alloc (by omega) _⟩
      case round =>
        obtain ⟨j, hj, rfl, ho2, h5, hb2⟩ := hrel
        have hz2 := hb2.size
        have y0 := cell_of_row _ _ 0 _ _ _ h5
        have y1 := cell_of_row _ _ 1 _ _ _ h5
        have y2 := cell_of_row _ _ 2 _ _ _ h5
        have y3 := cell_of_row _ _ 3 _ _ _ h5
        simp at y0 y1 y2 y3
        have Ho2 := Lib.hid ho2
        have H5 := Lib.hid h5
        have hl5 := (Array.getElem?_eq_some_iff.1 h5).1
        by_cases hjn : j < x.1.2.1
        · have hln : (upTo rs k ++ (prs x.1).take j).length = (upTo rs k).length + j := by rw [List.length_append, List.length_take, prs_len]; omega
          have hsi := fun W (hB : Below w.heap.size w W) => Sign_any x (x.1.1 + j) hok ⟨by omega, by omega⟩ W ((hsgw.below hB).more hB.size)
          unfold rV slV at hsi
          rw [show x.1.1 + j - x.1.1 = j by omega] at hsi
          have Hln := Lib.hid hln
          have hnx := prs_take x.1 j hjn
          have Hnx := Lib.hid hnx
          generalize sgAt x.1 j = sg at *
          clear ho2 h5 hln hnx
          go_wp2_with (first | (go_at_call 40; refine (hend _ _).mono ?_; rintro e w4 ⟨rfl, hb4⟩; have hz4 := hb4.size; have HB4 := hb2.trans (hb4.mono (by omega)); have HO4 := Lib.hid (own_below Ho2.out hb4); have H54 := Lib.hid (heap_below H5.out hb4); have z0 := (cell_of_row _ _ 0 _ _ _ H54.out); have z1 := (cell_of_row _ _ 1 _ _ _ H54.out); have z2 := (cell_of_row _ _ 2 _ _ _ H54.out); have z3 := (cell_of_row _ _ 3 _ _ _ H54.out); simp at z0 z1 z2 z3) | (go_at_call 41; refine (hsi _ HB4).mono ?_; rintro e w5 ⟨rfl, hb5⟩; have hz5 := hb5.size; have HB5 := HB4.trans (hb5.mono (by omega)); have HO5 := Lib.hid (own_below HO4.out hb5); have H55 := Lib.hid (heap_below H54.out hb5)) | (at_builtin; refine wpList_append_own _ rfl _ _ 39 rfl w.heap.size 43 i0 _ 2 16 Tryd.underlying39 hi iz0 iz1 iz2 rfl (by decide) _ _ _ rfl (HO5.out.alloc _) ⟨w5.heap.size, 0, none⟩ 1 1 [.int .i64 ((x.1.1 : Int) + j), .int .i32 sg] rfl rfl ?d1 ?d2 ?d3 ?d4 ?d5 ?_))
          case d1 => exact two_new2 w5 _ _ _
          case d2 => intro u hu; simp only [List.mem_cons, List.not_mem_nil, or_false] at hu; rcases hu with rfl | rfl <;> rfl
          case d3 => have := Hln.out; unfold maxLen; omega
          case d4 => have := Hln.out; omega
          case d5 => simp; omega
          intro v6 w6 hown6 hg6 h06
          have HB6 := below_grownOwn (HB5.alloc (by omega) (.cells #[.int .i64 ((x.1.1 : Int) + j), .int .i32 sg] 43)) (HO5.out.alloc _) hg6 (by simp; omega) (Nat.le_refl _)
          have hl6 := (Array.getElem?_eq_some_iff.1 H55.out).1
          have h55 := (Below.heap_alloc w5 (.cells #[.int .i64 ((x.1.1 : Int) + j), .int .i32 sg] 43) _ hl6).trans H55.out
          have H56 := Lib.hid ((hg6.block _ (by simp; omega) (heap_ne (HO5.out.alloc _) h55 (by decide))).trans h55)
          clear h55
          have Hown6 := Lib.hid hown6
          clear hown6 hg6 h06
          go_wp2_with fail
          refine ⟨⟨j + 1, by omega, by simp; omega, ?_, H56.out, HB6⟩, by simp [intOf]; omega⟩
          have := Hown6.out
          rw [Hnx.out, ← List.append_assoc, List.flatMap_append, List.length_append]
          simpa [prV] using this
        · obtain rfl : j = x.1.2.1 := by omega
          rw [List.take_of_length_le (by rw [prs_len]; omega), ← Hsn.out] at ho2
          have Ho3 := Lib.hid ho2
          clear ho2 h5
          go_wp2_with (go_at_call 40; refine (hend _ _).mono ?_; rintro e w4 ⟨rfl, hb4⟩; have hz4 := hb4.size; have HB4 := hb2.trans (hb4.mono (by omega)); have H54 := Lib.hid (heap_below H5.out hb4); have z0 := (cell_of_row _ _ 0 _ _ _ H54.out); have z1 := (cell_of_row _ _ 1 _ _ _ H54.out); have z2 := (cell_of_row _ _ 2 _ _ _ H54.out); have z3 := (cell_of_row _ _ 3 _ _ _ H54.out); simp at z0 z1 z2 z3)
          refine ⟨⟨k + 1, by omega, by simp, own_below Ho3.out hb4, HB4⟩, by simp [intOf]; omega⟩
    · obtain rfl : k = rs.length := by omega
      rw [hall] at ho
      obtain ⟨A3, c3, rfl, hc3, hr3⟩ := Reads.of_own ho
      have Hr3 := Lib.hid hr3
      clear ho hr3
      go_wp2_with fail
      show P (.returned (.slice A3 ((rs.map (·.1)).flatMap prs).length c3)) wr
      rw [← hP]
      exact ⟨A3, c3, rfl, hc3, Hr3.out, hb⟩
end Go.Proofs.YtpnjandlpbjddabDoor
