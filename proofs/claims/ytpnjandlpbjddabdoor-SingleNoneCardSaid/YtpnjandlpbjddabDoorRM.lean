/- Contract of a table's Forward: a code's sign; condition: the table's rows stand by rising codes. -/
import Derived.Test.YtpnjandlpbjddabDoorRL
set_option maxRecDepth 100000
set_option maxHeartbeats 4000000
namespace Go.Proofs.YtpnjandlpbjddabDoor
open Go Go.RowKit

theorem find_srt (code : Int) : ∀ (L : List Pr) (y : Pr), Srt L → y ∈ L → (y.1 : Int) = code → L.find? (fun x => decide ((x.1 : Int) = code)) = some y
  | [], y, _, h, _ => by simp at h
  | a :: L, y, hs, h, he => by
    have hs' := List.pairwise_cons.1 hs
    rw [List.find?_cons]
    by_cases ha : (a.1 : Int) = code
    · rw [decide_eq_true ha]
      rcases List.mem_cons.1 h with rfl | h
      · rfl
      · have := hs'.1 y h; omega
    · rw [decide_eq_false ha]
      rcases List.mem_cons.1 h with rfl | h
      · exact absurd he ha
      · exact find_srt code L y hs'.2 h he
theorem fwd_hit {w : World} {B : Nat} {A : Option Addr} {rs : List (Rw × Sl)} (h : TbR w B A rs) {x : Rw × Sl} (hx : x ∈ rs) {c : Nat} (h1 : x.1.1 ≤ c) (h2 : c < x.1.1 + x.1.2.1) : fwdR (rs.map (·.1)) (c : Int) = some (sgAt x.1 (c - x.1.1)) := by
  unfold fwdR
  rw [find_srt (c : Int) _ (c, sgAt x.1 (c - x.1.1)) (rows_srt _ h.2.2.1) (List.mem_flatMap.2 ⟨x.1, List.mem_map_of_mem hx, mem_prs.2 ⟨h1, h2, rfl⟩⟩) rfl]
  rfl
theorem fwd_miss {rs : List (Rw × Sl)} {code : Int} (h : ∀ x ∈ rs, code < (x.1.1 : Int) ∨ (x.1.1 : Int) + x.1.2.1 ≤ code) : fwdR (rs.map (·.1)) code = none := by
  unfold fwdR
  rw [List.find?_eq_none.2]
  · rfl
  intro y hy
  obtain ⟨r, hr, hyr⟩ := List.mem_flatMap.1 hy
  obtain ⟨x, hx, rfl⟩ := List.mem_map.1 hr
  have h1 := h x hx
  have h2 := mem_prs.1 hyr
  simp only [decide_eq_true_eq]
  omega
def FdPost (rs : List (Rw × Sl)) (code : Int) (w0 : World) (e : Ending) (w' : World) : Prop := e = .returned (.tuple #[.int .i32 ((fwdR (rs.map (·.1)) code).getD 0), .bool (fwdR (rs.map (·.1)) code).isSome]) ∧ Below w0.heap.size w0 w'
theorem Forward_any (A : Option Addr) (c : Nat) (rs : List (Rw × Sl)) (code : Int) (hn : rs.length ≤ 35184372089000) (w : World) (h : TbR w w.heap.size A rs) :
    Calls Tryd.prog 61 #[.agg #[.slice A rs.length c], .int .i64 code] w (FdPost rs code w) := by
  have HN : Hid (fwdR (rs.map (·.1)) code = none → ∀ w', Below w.heap.size w w' → FdPost rs code w (.returned (.tuple #[.int .i32 0, .bool false])) w') := Lib.hid fun h w' hb => by unfold FdPost; rw [h]; exact ⟨rfl, hb⟩
  have HY : Hid (∀ z, fwdR (rs.map (·.1)) code = some z → ∀ w', Below w.heap.size w w' → FdPost rs code w (.returned (.tuple #[.int .i32 z, .bool true])) w') := Lib.hid fun z h w' hb => by unfold FdPost; rw [h]; exact ⟨rfl, hb⟩
  generalize FdPost rs code w = P at *
  obtain ⟨WB, hWB⟩ : ∃ W, W = (w.alloc (.cells #[.slice A rs.length c] 24)).alloc (.cells #[.int .i64 code] 3) := ⟨_, rfl⟩
  have hBW : Below w.heap.size w WB := by rw [hWB]; exact ((Below.refl _ w).alloc (Nat.le_refl _) _).alloc (by simp) _
  have hcap : Capt WB (w.heap.size + 1) w.heap.size code A rs.length c := by
    rw [hWB]
    constructor
    · have := cell_of_row ((w.alloc (.cells #[.slice A rs.length c] 24)).alloc (.cells #[.int .i64 code] 3)) (w.alloc (.cells #[.slice A rs.length c] 24)).heap.size 0 _ 3 (0, 0) (heap_alloc_new _ _)
      simp only [World.size_alloc] at this
      exact this
    · rw [World.cell?_alloc_lt _ _ _ (by simp), cell_of_row _ w.heap.size 0 _ 24 (0, 0) (heap_alloc_new w _)]; rfl
  have hsr := Search_any (w.heap.size + 1) w.heap.size code A c rs hn WB hcap ((h.below hBW).more hBW.size)
  rw [hWB] at hsr
  have hzW : WB.heap.size = w.heap.size + 2 := by rw [hWB]; simp
  go_enter Tryd.func61, Tryd.ntmps61
  go_wp2_with (go_at_call 93; refine hsr.mono ?_; rintro e w1 ⟨k, rfl, hk, hlo, hhi, hb1⟩; rw [← hWB] at hb1; have HB1 := bch hBW hb1; have hk2 : Capt w1 (w.heap.size + 1) w.heap.size code A rs.length c := ⟨(hb1.cell (World.block_lt_of_cell? _ _ hcap.1)).trans hcap.1, (hb1.cell (World.block_lt_of_cell? _ _ hcap.2)).trans hcap.2⟩; obtain ⟨k3, k2⟩ := hk2; have Hlo := Lib.hid hlo; have Hhi := Lib.hid hhi; clear hlo hhi)
  have hTB := h.below HB1
  by_cases hkl : k < rs.length
  · obtain ⟨x, hx⟩ : ∃ x, rs[k]? = some x := ⟨_, List.getElem?_eq_getElem hkl⟩
    obtain ⟨ad, hA, hadb, y0, y1, y2, y3, hok, hsg, hmem⟩ := hTB.row hx
    subst hA
    have hend : code < (x.1.1 : Int) + x.1.2.1 := by
      have := Hhi.out
      unfold endF at this
      rw [hx] at this
      simpa using this
    have hkd : ((k : Int) == (rs.length : Int)) = false := by rw [beq_eq_false_iff_ne]; omega
    have ok2 := hok.2.1
    by_cases hfr : code < (x.1.1 : Int)
    · have hd : decide (code < (x.1.1 : Int)) = true := decide_eq_true hfr
      have hm : fwdR (rs.map (·.1)) code = none := fwd_miss fun y hy => by
        obtain ⟨j, hj, rfl⟩ := List.getElem_of_mem hy
        rcases Nat.lt_or_ge j k with h1 | h1
        · right
          have := Hlo.out j h1
          unfold endF at this
          rw [List.getElem?_eq_getElem hj] at this
          simpa using this
        · left
          rcases Nat.lt_or_ge k j with h2 | h2
          · have hp := h.2.2.1
            rw [List.pairwise_map, List.pairwise_iff_getElem] at hp
            have := hp k j hkl hj h2
            rw [List.getElem?_eq_getElem hkl] at hx
            injection hx with hx
            subst hx
            omega
          · obtain rfl : j = k := by omega
            rw [List.getElem?_eq_getElem hkl] at hx
            injection hx with hx
            subst hx
            exact hfr
      have Hf := Lib.hid (HN.out hm)
      clear HN HY hm
      go_quiet (fail)
      go_wp2_with fail
      show P (.returned (.tuple #[.int .i32 0, .bool false])) _
      exact Hf.out _ (below_drewN HB1 _)
    · have hd : decide (code < (x.1.1 : Int)) = false := decide_eq_false hfr
      obtain ⟨cn, rfl⟩ : ∃ n : Nat, code = n := ⟨code.toNat, by omega⟩
      have hm := fwd_hit h hmem (c := cn) (by omega) (by omega)
      have Hf := Lib.hid (HY.out _ hm)
      have hsi := fun W (hB : Below w.heap.size w W) => Sign_any x cn hok ⟨by omega, by omega⟩ W (((h.2.1 x hmem).2.below hB).more hB.size)
      unfold rV slV at hsi
      generalize sgAt x.1 (cn - x.1.1) = sg at *
      clear HN HY hm
      have hS1 : FwS w1 (w.heap.size + 1) w.heap.size (cn : Int) ad rs.length c k x w1 := ⟨⟨k3, k2, y0, y1, y2, y3⟩, Below.refl _ _⟩
      go_quiet (fail)
      go_wp2_with fail
      have hS2 := hS1.keep (below_drewN (Below.refl w1.heap.size w1) nq)
      have hS0 : FwS w1 (w.heap.size + 1) w.heap.size (cn : Int) ad rs.length c k x (w1.drewN nq).drew := ⟨hS2.1, hS2.2.drew⟩
      refine wp_region_lin (FwS w1 (w.heap.size + 1) w.heap.size (cn : Int) ad rs.length c k x) [(0, true), (1, true), (2, true), (3, true), (4, true), (5, true), (6, false), (7, true), (8, true)] (by kernel_rfl) (by kernel_rfl) (by kernel_rfl) (Nat.le_of_ble_eq_true rfl) (fun _ _ d _ _ h => by cases d <;> exact h) hS0 ?_
      repeat (first
        | (refine lin_skip rfl (by rfl) ?_; try simp only [Act.put, List.setIfInBounds_toArray, List.set_cons_zero, List.set_cons_succ])
        | (refine' lin_pure rfl (by rfl) _ (fun w' hSw => _) _; rotate_left; (obtain ⟨⟨s1, s2, s3, s4, s5, s6⟩, _⟩ := hSw; go_simp; try with_reducible rfl); try simp only [Act.put, List.setIfInBounds_toArray, List.set_cons_zero, List.set_cons_succ])
        | (refine lin_eff rfl (by rfl) (fun K hK => ?_); go_simp; (go_at_call 41; refine (hsi _ (bch HB1 hS0.2)).mono ?_; rintro e w4 ⟨rfl, hb4⟩); go_wp2_with fail; have hS4 := hS0.keep hb4; refine hK.out _ _ hS4 ?_; clear hK K; try simp only [Act.put, List.setIfInBounds_toArray, List.set_cons_zero, List.set_cons_succ]))
      refine lin_nil ?_
      go_wp2_with fail
      show P (.returned (.tuple #[.int .i32 sg, .bool true])) _
      exact Hf.out _ (bch HB1 hS4.2)
  · obtain rfl : k = rs.length := by omega
    have hkd : ((rs.length : Int) == (rs.length : Int)) = true := by simp
    have hm : fwdR (rs.map (·.1)) code = none := fwd_miss fun y hy => by
      obtain ⟨j, hj, rfl⟩ := List.getElem_of_mem hy
      right
      have := Hlo.out j hj
      unfold endF at this
      rw [List.getElem?_eq_getElem hj] at this
      simpa using this
    have Hf := Lib.hid (HN.out hm)
    clear HN HY hm
    go_quiet (fail)
    go_wp2_with fail
    show P (.returned (.tuple #[.int .i32 0, .bool false])) _
    exact Hf.out _ (below_drewN HB1 _)
end Go.Proofs.YtpnjandlpbjddabDoor
