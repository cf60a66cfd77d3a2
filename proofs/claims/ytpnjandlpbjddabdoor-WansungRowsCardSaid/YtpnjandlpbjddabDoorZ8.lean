/- Contract of a table's Forward: a code's sign; condition: the table's rows stand by rising codes. -/
import Derived.Test.YtpnjandlpbjddabDoorZ7
import Derived.BigQuiet
import Derived.Test.YtpnjandlpbjddabDoorZ3
set_option maxRecDepth 100000
set_option maxHeartbeats 4000000
namespace Go.Proofs.YtpnjandlpbjddabDoor
open Go Go.RowKit

theorem find_srt (code : Int) : ∀ (L : List Pr) (y : Pr), Srt L → y ∈ L → (y.1 : Int) = code → L.find? (fun x => decide ((x.1 : Int) = code)) = some y
  | [], y, _, h, _ => by simp at h
  | a :: L, y, hs, h, he => by
    have hs' := List.pairwise_cons.1 hs
    rw [List.find?_cons]
    by_cases ha : (a.1 : Int) = code
    · rw [decide_eq_true ha]
      rcases List.mem_cons.1 h with rfl | h
      · rfl
      · have := hs'.1 y h; omega
    · rw [decide_eq_false ha]
      rcases List.mem_cons.1 h with rfl | h
      · exact absurd he ha
      · exact find_srt code L y hs'.2 h he
theorem fwd_hit {w : World} {B : Nat} {A : Option Addr} {rs : List (Rw × Sl)} (h : TbR w B A rs) {x : Rw × Sl} (hx : x ∈ rs) {c : Nat} (h1 : x.1.1 ≤ c) (h2 : c < x.1.1 + x.1.2.1) : fwdR (rs.map (·.1)) (c : Int) = some (sgAt x.1 (c - x.1.1)) := by
  unfold fwdR
  rw [find_srt (c : Int) _ (c, sgAt x.1 (c - x.1.1)) (rows_srt _ h.2.2.1) (List.mem_flatMap.2 ⟨x.1, List.mem_map_of_mem hx, mem_prs.2 ⟨h1, h2, rfl⟩⟩) rfl]
  rfl
theorem fwd_miss {rs : List (Rw × Sl)} {code : Int} (h : ∀ x ∈ rs, code < (x.1.1 : Int) ∨ (x.1.1 : Int) + x.1.2.1 ≤ code) : fwdR (rs.map (·.1)) code = none := by
  unfold fwdR
  rw [List.find?_eq_none.2]
  · rfl
  intro y hy
  obtain ⟨r, hr, hyr⟩ := List.mem_flatMap.1 hy
  obtain ⟨x, hx, rfl⟩ := List.mem_map.1 hr
  have h1 := h x hx
  have h2 := mem_prs.1 hyr
  simp only [decide_eq_true_eq]
  omega
def FdPost (rs : List (Rw × Sl)) (code : Int) (w0 : World) (e : Ending) (w' : World) : Prop := e = .returned (.tuple #[.int .i32 ((fwdR (rs.map (·.1)) code).getD 0), .bool (fwdR (rs.map (·.1)) code).isSome]) ∧ Below w0.heap.size w0 w'
theorem Forward_any (A : Option Addr) (c : Nat) (rs : List (Rw × Sl)) (code : Int) (hn : rs.length ≤ 35184372089000) (w : World) (h : TbR w w.heap.size A rs) :
    Calls Tryd.prog 61 #[.agg #[.slice A rs.length c], .int .i64 code] w (FdPost rs code w) := by
  have HN : Hid (fwdR (rs.map (·.1)) code = none → ∀ w', Below w.heap.size w w' → FdPost rs code w (.returned (.tuple #[.int .i32 0, .bool false])) w') := Lib.hid fun h w' hb => by unfold FdPost; rw [h]; exact ⟨rfl, hb⟩
  have HY : Hid (∀ z, fwdR (rs.map (·.1)) code = some z → ∀ w', Below w.heap.size w w' → FdPost rs code w (.returned (.tuple #[.int .i32 z, .bool true])) w') := Lib.hid fun z h w' hb => by unfold FdPost; rw [h]; exact ⟨rfl, hb⟩
  generalize FdPost rs code w = P at *
  obtain ⟨WB, hWB⟩ : ∃ W, W = (w.alloc (.cells #[.slice A rs.length c] 24)).alloc (.cells #[.int .i64 code] 3) := ⟨_, rfl⟩
  have hBW : Below w.heap.size w WB := by rw [hWB]; exact ((Below.refl _ w).alloc (Nat.le_refl _) _).alloc (by simp) _
  have hcap : Capt WB (w.heap.size + 1) w.heap.size code A rs.length c := by
    rw [hWB]
    constructor
    · have := cell_of_row ((w.alloc (.cells #[.slice A rs.length c] 24)).alloc (.cells #[.int .i64 code] 3)) (w.alloc (.cells #[.slice A rs.length c] 24)).heap.size 0 _ 3 (0, 0) (heap_alloc_new _ _)
      simp only [World.size_alloc] at this
      exact this
    · rw [World.cell?_alloc_lt _ _ _ (by simp), cell_of_row _ w.heap.size 0 _ 24 (0, 0) (heap_alloc_new w _)]; rfl
  have hsr := Search_any (w.heap.size + 1) w.heap.size code A c rs hn WB hcap ((h.below hBW).more hBW.size)
  rw [hWB] at hsr
  have hzW : WB.heap.size = w.heap.size + 2 := by rw [hWB]; simp
  go_enter Tryd.func61, Tryd.ntmps61
  go_wp2_with (go_at_call 93; refine hsr.mono ?_; rintro e w1 ⟨k, rfl, hk, hlo, hhi, hb1⟩; rw [← hWB] at hb1; have HB1 := bch hBW hb1; have hk2 : Capt w1 (w.heap.size + 1) w.heap.size code A rs.length c := ⟨(hb1.cell (World.block_lt_of_cell? _ _ hcap.1)).trans hcap.1, (hb1.cell (World.block_lt_of_cell? _ _ hcap.2)).trans hcap.2⟩; obtain ⟨k3, k2⟩ := hk2; have Hlo := Lib.hid hlo; have Hhi := Lib.hid hhi; clear hlo hhi)
  have hTB := h.below HB1
  by_cases hkl : k < rs.length
  · obtain ⟨x, hx⟩ : ∃ x, rs[k]? = some x := ⟨_, List.getElem?_eq_getElem hkl⟩
    obtain ⟨ad, hA, hadb, y0, y1, y2, y3, hok, hsg, hmem⟩ := hTB.row hx
    subst hA
    have hend : code < (x.1.1 : Int) + x.1.2.1 := by
      have := Hhi.out
      unfold endF at this
      rw [hx] at this
      simpa using this
    have hkd : ((k : Int) == (rs.length : Int)) = false := by rw [beq_eq_false_iff_ne]; omega
    have ok2 := hok.2.1
    by_cases hfr : code < (x.1.1 : Int)
    · have hd : decide (code < (x.1.1 : Int)) = true := decide_eq_true hfr
      have hm : fwdR (rs.map (·.1)) code = none := fwd_miss fun y hy => by
        obtain ⟨j, hj, rfl⟩ := List.getElem_of_mem hy
        rcases Nat.lt_or_ge j k with h1 | h1
        · right
          have := Hlo.out j h1
          unfold endF at this
          rw [List.getElem?_eq_getElem hj] at this
          simpa using this
        · left
          rcases Nat.lt_or_ge k j with h2 | h2
          · have hp := h.2.2.1
            rw [List.pairwise_map, List.pairwise_iff_getElem] at hp
            have := hp k j hkl hj h2
            rw [List.getElem?_eq_getElem hkl] at hx
            injection hx with hx
            subst hx
            omega
          · obtain rfl : j = k := by omega
            rw [List.getElem?_eq_getElem hkl] at hx
            injection hx with hx
            subst hx
            exact hfr
      have Hf := Lib.hid (HN.out hm)
      clear HN HY hm
      go_quiet (fail)
      go_wp2_with fail
      show P (.returned (.tuple #[.int .i32 0, .bool false])) _
      exact Hf.out _ (below_drewN HB1 _)
    · have hd : decide (code < (x.1.1 : Int)) = false := decide_eq_false hfr
      obtain ⟨cn, rfl⟩ : ∃ n : Nat, code = n := ⟨code.toNat, by omega⟩
      have hm := fwd_hit h hmem (c := cn) (by omega) (by omega)
      have Hf := Lib.hid (HY.out _ hm)
      have hsi := fun W (hB : Below w.heap.size w W) => RwSg_any x cn hok ⟨by omega, by omega⟩ W (((h.2.1 x hmem).2.below hB).more hB.size)
      unfold rV slV at hsi
      generalize sgAt x.1 (cn - x.1.1) = sg at *
      clear HN HY hm
      have hS1 : FwS w1 (w.heap.size + 1) w.heap.size (cn : Int) ad rs.length c k x w1 := ⟨⟨k3, k2, y0, y1, y2, y3⟩, Below.refl _ _⟩
      go_quiet (fail)
      go_wp2_with fail
      have hS2 := hS1.keep (below_drewN (Below.refl w1.heap.size w1) nq)
      have hS0 : FwS w1 (w.heap.size + 1) w.heap.size (cn : Int) ad rs.length c k x (w1.drewN nq).drew := ⟨hS2.1, hS2.2.drew⟩
      refine wp_region_lin (FwS w1 (w.heap.size + 1) w.heap.size (cn : Int) ad rs.length c k x) [(0, true), (1, true), (2, true), (3, true), (4, true), (5, true), (6, false), (7, true), (8, true)] (by kernel_rfl) (by kernel_rfl) (by kernel_rfl) (Nat.le_of_ble_eq_true rfl) (fun _ _ d _ _ h => by cases d <;> exact h) hS0 ?_
      repeat (first
        | (refine lin_skip rfl (by rfl) ?_; try simp only [Act.put, List.setIfInBounds_toArray, List.set_cons_zero, List.set_cons_succ])
        | (refine' lin_pure rfl (by rfl) _ (fun w' hSw => _) _; rotate_left; (obtain ⟨⟨s1, s2, s3, s4, s5, s6⟩, _⟩ := hSw; go_simp; try with_reducible rfl); try simp only [Act.put, List.setIfInBounds_toArray, List.set_cons_zero, List.set_cons_succ])
        | (refine lin_eff rfl (by rfl) (fun K hK => ?_); go_simp; (go_at_call 41; refine (hsi _ (bch HB1 hS0.2)).mono ?_; rintro e w4 ⟨rfl, hb4⟩); go_wp2_with fail; have hS4 := hS0.keep hb4; refine hK.out _ _ hS4 ?_; clear hK K; try simp only [Act.put, List.setIfInBounds_toArray, List.set_cons_zero, List.set_cons_succ]))
      refine lin_nil ?_
      go_wp2_with fail
      show P (.returned (.tuple #[.int .i32 sg, .bool true])) _
      exact Hf.out _ (bch HB1 hS4.2)
  · obtain rfl : k = rs.length := by omega
    have hkd : ((rs.length : Int) == (rs.length : Int)) = true := by simp
    have hm : fwdR (rs.map (·.1)) code = none := fwd_miss fun y hy => by
      obtain ⟨j, hj, rfl⟩ := List.getElem_of_mem hy
      right
      have := Hlo.out j hj
      unfold endF at this
      rw [List.getElem?_eq_getElem hj] at this
      simpa using this
    have Hf := Lib.hid (HN.out hm)
    clear HN HY hm
    go_quiet (fail)
    go_wp2_with fail
    show P (.returned (.tuple #[.int .i32 0, .bool false])) _
    exact Hf.out _ (below_drewN HB1 _)
end Go.Proofs.YtpnjandlpbjddabDoor

/- What Over keeps (plain), and slices.Clone of rows; condition: the tables' rows stand by rising codes. -/
set_option maxRecDepth 100000
set_option maxHeartbeats 1000000
namespace Go.Proofs.YtpnjandlpbjddabDoor
open Go Go.RowKit

def prsT (rs : List (Rw × Sl)) : List Pr := (rs.map (·.1)).flatMap prs
theorem mem_prsT {rs : List (Rw × Sl)} {y : Pr} : y ∈ prsT rs ↔ ∃ x ∈ rs, y ∈ prs x.1 := by
  unfold prsT
  rw [List.mem_flatMap]
  constructor
  · rintro ⟨r, hr, hy⟩
    obtain ⟨x, hx, rfl⟩ := List.mem_map.1 hr
    exact ⟨x, hx, hy⟩
  · rintro ⟨x, hx, hy⟩
    exact ⟨x.1, List.mem_map_of_mem hx, hy⟩
theorem hasT {rs : List (Rw × Sl)} {c : Nat} : hasC (prsT rs) c = true ↔ ∃ x ∈ rs, x.1.1 ≤ c ∧ c < x.1.1 + x.1.2.1 := by
  rw [hasC_iff]
  constructor
  · rintro ⟨y, hy, rfl⟩
    obtain ⟨x, hx, h⟩ := mem_prsT.1 hy
    have := mem_prs.1 h
    exact ⟨x, hx, this.1, this.2.1⟩
  · rintro ⟨x, hx, h1, h2⟩
    exact ⟨(c, sgAt x.1 (c - x.1.1)), mem_prsT.2 ⟨x, hx, mem_prs.2 ⟨h1, h2, rfl⟩⟩, rfl⟩
/-- Rows put one over another, from parts: the parts tell what the upper table hasn't. -/
def OvOk (ts : List (Rw × Sl)) (done : Pr → Prop) (ps : List (Rw × Sl)) (cur : Nat) : Prop :=
  (∀ y, (∃ x ∈ ps, y ∈ prs x.1) ↔ done y ∧ hasC (prsT ts) y.1 = false) ∧ ((ps.map (·.1)).Pairwise fun a b => a.1 + a.2.1 ≤ b.1) ∧ (∀ x ∈ ps, x.1.1 + x.1.2.1 ≤ cur) ∧ ∀ x ∈ ps, RwOk x.1
section
variable {ts ps : List (Rw × Sl)} {done : Pr → Prop} {cur : Nat}
theorem OvOk.mem (h : OvOk ts done ps cur) : ∀ y, (∃ x ∈ ps, y ∈ prs x.1) ↔ done y ∧ hasC (prsT ts) y.1 = false := h.1
theorem OvOk.asc (h : OvOk ts done ps cur) : (ps.map (·.1)).Pairwise fun a b => a.1 + a.2.1 ≤ b.1 := h.2.1
theorem OvOk.le (h : OvOk ts done ps cur) : ∀ x ∈ ps, x.1.1 + x.1.2.1 ≤ cur := h.2.2.1
theorem OvOk.ok (h : OvOk ts done ps cur) : ∀ x ∈ ps, RwOk x.1 := h.2.2.2
end
theorem ov_nil (ts : List (Rw × Sl)) (cur : Nat) : OvOk ts (fun _ => False) [] cur := ⟨by simp, by simp, by simp, by simp⟩
theorem OvOk.more {ts : List (Rw × Sl)} {d d' : Pr → Prop} {ps : List (Rw × Sl)} {cur cur' : Nat} (h : OvOk ts d ps cur) (hd : ∀ y, hasC (prsT ts) y.1 = false → (d y ↔ d' y)) (hc : cur ≤ cur') : OvOk ts d' ps cur' :=
  ⟨fun y => by rw [h.mem]; constructor <;> (rintro ⟨a, b⟩; exact ⟨by first | exact (hd y b).1 a | exact (hd y b).2 a, b⟩), h.asc, fun x hx => Nat.le_trans (h.le x hx) hc, h.ok⟩
/-- A part of a row behind what was done, where the upper table has no code. -/
theorem OvOk.part {ts : List (Rw × Sl)} {d : Pr → Prop} {ps : List (Rw × Sl)} {a b : Nat} {r : Rw} {q : Sl} (h : OvOk ts d ps a) (hr : RwOk r) (h1 : r.1 ≤ a) (h2 : a < b) (h3 : b ≤ r.1 + r.2.1) (hn : ∀ c, a ≤ c → c < b → hasC (prsT ts) c = false) :
    OvOk ts (fun y => d y ∨ (y ∈ prs r ∧ a ≤ y.1 ∧ y.1 < b)) (ps ++ [(partR r a b, q)]) b := by
  refine ⟨fun y => ?_, ?_, fun x hx => ?_, fun x hx => ?_⟩
  · constructor
    · rintro ⟨x, hx, hy⟩
      rcases List.mem_append.1 hx with hx | hx
      · have := (h.mem y).1 ⟨x, hx, hy⟩
        exact ⟨.inl this.1, this.2⟩
      · simp only [List.mem_singleton] at hx
        subst hx
        have := (part_mem h1 h3).1 hy
        exact ⟨.inr ⟨this.2.2, this.1, this.2.1⟩, hn _ this.1 this.2.1⟩
    · rintro ⟨hy | ⟨hy, h4, h5⟩, hc⟩
      · obtain ⟨x, hx, hyx⟩ := (h.mem y).2 ⟨hy, hc⟩
        exact ⟨x, by simp [hx], hyx⟩
      · exact ⟨_, List.mem_append_right _ (List.mem_singleton.2 rfl), (part_mem h1 h3).2 ⟨h4, h5, hy⟩⟩
  · rw [List.map_append, List.pairwise_append]
    refine ⟨h.asc, by simp, fun x hx y hy => ?_⟩
    simp only [List.map_cons, List.map_nil, List.mem_singleton] at hy
    subst hy
    obtain ⟨z, hz, rfl⟩ := List.mem_map.1 hx
    exact h.le z hz
  · rcases List.mem_append.1 hx with hx | hx
    · have := h.le x hx; omega
    · simp only [List.mem_singleton] at hx
      subst hx
      show a + (b - a) ≤ b
      omega
  · rcases List.mem_append.1 hx with hx | hx
    · exact h.ok x hx
    · simp only [List.mem_singleton] at hx
      subst hx
      exact part_ok hr h1 h2 h3
/-- All rows, by rising codes: one table over another. -/
theorem ov_end {ts os ps rs : List (Rw × Sl)} {cur : Nat} (ht : RowsOk (ts.map (·.1))) (ho : RowsOk (os.map (·.1))) (h : OvOk ts (fun y => y ∈ prsT os) ps cur) (hp : rs.Perm (ts ++ ps)) (hs : rs.Pairwise fun a b => a.1.1 ≤ b.1.1) :
    RowsOk (rs.map (·.1)) ∧ prsT rs = overL (prsT ts) (prsT os) := by
  have hok : ∀ x ∈ rs, RwOk x.1 := fun x hx => by
    rcases List.mem_append.1 (hp.mem_iff.1 hx) with h1 | h1
    · exact ht.2 _ (List.mem_map_of_mem h1)
    · exact h.ok x h1
  have hap : ((ts ++ ps).map (·.1)).Pairwise Apart := by
    rw [List.map_append, List.pairwise_append]
    refine ⟨ht.1.imp fun h => .inl h, h.asc.imp fun h => .inl h, fun a ha b hb => ?_⟩
    obtain ⟨x, hx, rfl⟩ := List.mem_map.1 ha
    obtain ⟨y, hy, rfl⟩ := List.mem_map.1 hb
    have hx1 := (ht.2 _ (List.mem_map_of_mem (f := (·.1)) hx)).1
    have hy1 := (h.ok y hy).1
    unfold Apart
    rcases Nat.lt_or_ge (max x.1.1 y.1.1) (x.1.1 + x.1.2.1) with h1 | h1
    · rcases Nat.lt_or_ge (max x.1.1 y.1.1) (y.1.1 + y.1.2.1) with h2 | h2
      · have := ((h.mem (max x.1.1 y.1.1, sgAt y.1 (max x.1.1 y.1.1 - y.1.1))).1 ⟨y, hy, mem_prs.2 ⟨by simp; omega, by simp; omega, rfl⟩⟩).2
        have h3 : hasC (prsT ts) (max x.1.1 y.1.1) = true := hasT.2 ⟨x, hx, by omega, h1⟩
        simp only at this
        rw [h3] at this; cases this
      · omega
    · omega
  have hap2 : (rs.map (·.1)).Pairwise Apart := by
    refine ((hp.map _).pairwise_iff ?_).2 hap
    intro a b h
    unfold Apart at *
    omega
  have hasc : (rs.map (·.1)).Pairwise fun a b => a.1 + a.2.1 ≤ b.1 := by
    have hs2 : (rs.map (·.1)).Pairwise fun a b => a.1 ≤ b.1 := by rw [List.pairwise_map]; exact hs
    refine (hs2.and hap2).imp_of_mem ?_
    intro a b hma hmb h
    obtain ⟨h1, h2⟩ := h
    obtain ⟨x, hx, rfl⟩ := List.mem_map.1 hmb
    have := (hok x hx).1
    unfold Apart at h2
    omega
  have hro : RowsOk (rs.map (·.1)) := ⟨hasc, fun r hr => by obtain ⟨x, hx, rfl⟩ := List.mem_map.1 hr; exact hok x hx⟩
  refine ⟨hro, over_eq (rows_srt _ ht.1) (rows_srt _ ho.1) (rows_srt _ hasc) fun y => ?_⟩
  rw [show y ∈ prsT rs ↔ ∃ x ∈ rs, y ∈ prs x.1 from mem_prsT]
  constructor
  · rintro ⟨x, hx, hy⟩
    rcases List.mem_append.1 (hp.mem_iff.1 hx) with h1 | h1
    · exact .inl (mem_prsT.2 ⟨x, h1, hy⟩)
    · exact .inr ((h.mem y).1 ⟨x, h1, hy⟩)
  · rintro (h1 | h1)
    · obtain ⟨x, hx, hy⟩ := mem_prsT.1 h1
      exact ⟨x, hp.mem_iff.2 (List.mem_append_left _ hx), hy⟩
    · obtain ⟨x, hx, hy⟩ := (h.mem y).2 h1
      exact ⟨x, hp.mem_iff.2 (List.mem_append_right _ hx), hy⟩
theorem Clone_any (A : Option Addr) (c : Nat) (ts : List (Rw × Sl)) (hn : ts.length ≤ 10000000) (B : Nat) (w : World) (h : RdsR w B A ts) :
    Calls Tryd.prog 56 #[.slice A ts.length c] w fun e w' => ∃ v, e = .returned v ∧ w'.ownsRow w.heap.size 73 4 v ts.length (ts.flatMap rV) ∧ Below w.heap.size w w' := by
  obtain ⟨i0, hi, iz0, iz1, iz2⟩ := info_parts row_info
  cases A with
  | none =>
    have h0 : ts = [] := by
      rcases Nat.eq_zero_or_pos ts.length with h1 | h1
      · exact List.eq_nil_of_length_eq_zero h1
      · obtain ⟨ad, hA, _⟩ := h.1.2 h1; cases hA
    subst h0
    have := AnyE.slices_Clone_nil Tryd.laysClone 0 c w
    change Calls Tryd.prog 56 _ _ _ at this
    refine this.mono ?_
    rintro e w' ⟨rfl, rfl⟩
    exact ⟨_, rfl, World.ownsRow_nil _ _ _ _, Below.refl _ _⟩
  | some ad =>
    obtain ⟨bk, off, sp⟩ := ad
    obtain rfl : sp = none := h.2 _ rfl
    have hl := flat4_len rV rV_len ts
    have hc : ∀ j u, (ts.flatMap rV)[j]? = some u → w.cell? ⟨bk, off + j, none⟩ = some u := fun j u hu => by
      have hj : 0 < ts.length := by
        rcases Nat.eq_zero_or_pos ts.length with h1 | h1
        · rw [List.getElem?_eq_none (by omega)] at hu; cases hu
        · exact h1
      obtain ⟨ad, hA, _, hc⟩ := h.1.2 hj
      injection hA with hA
      subst hA
      have := hc j u hu
      rwa [addr_eq rfl] at this
    have := AnyE.slices_Clone Tryd.laysClone i0 _ 4 48 hi iz0 iz1 iz2 rfl (by decide) Tryd.sizeOf73 bk off ts.length c (ts.flatMap rV) w hl (by unfold maxLen; omega) (by omega) hc (fun u hu => by
      obtain ⟨x, _, hx⟩ := List.mem_flatMap.1 hu
      exact rV_one x u hx)
    change Calls Tryd.prog 56 _ _ _ at this
    refine this.mono ?_
    rintro e w' ⟨v, rfl, h1, _, h3⟩
    exact ⟨v, rfl, h1, h3⟩
end Go.Proofs.YtpnjandlpbjddabDoor

/- Contract of a table's Over; condition: both tables' rows stand by rising codes. -/
set_option maxRecDepth 100000
set_option maxHeartbeats 8000000
namespace Go.Proofs.YtpnjandlpbjddabDoor
open Go Go.RowKit

section
variable {P : Program}
/-- Where an append lays a row of the call's own. -/
theorem app_loc (w : World) (base : Nat) (t ty e : TypeId) (i : TypeInfo) (z : Value) (size bytes : Nat) (ht : P.underlying t = some (.slice e)) (hi : P.info? e = some i) (hz : i.zero = some z) (hsize : i.size = size) (hby : i.bytes = bytes) (hzs : z.cells.size = size) (hsz : 0 < size)
    (v : Value) (n : Nat) (xs : List Value) (hown : w.ownsRow base e size v n xs) (ad : Addr) (m c : Nat) (news : List Value) (hl : news.length = m * size) (hnews : ∀ j u, news[j]? = some u → w.cell? (ad.add j) = some u) (h1 : ∀ u ∈ news, u.oneCell' = true)
    (h63 : n + m ≤ maxLen) (hbytes : (n + m) * bytes ≤ 140737488355328) (hbase : base ≤ w.heap.size) :
    ∃ v' w', (Builtin.append_ #[t, t] ty #[v, .slice (some ad) m c]).run P w = .ok v' w' ∧ w'.ownsRow base e size v' (n + m) (xs ++ news) ∧ w.grownBy w' v.ownBlock ∧ (v'.ownBlock = v.ownBlock ∨ v'.ownBlock = some w.heap.size) := by
  obtain ⟨v', w', hr, h2, h3, h4⟩ := run_append_own (P := P) w base t ty e i z size bytes ht hi hz hsize hby hzs hsz v n xs hown ad m c news hl hnews h1 h63 hbytes hbase
  refine ⟨v', w', hr, h2, h3, ?_⟩
  subst hsize
  subst hby
  have hml : n + m ≤ 9223372036854775807 := by unfold maxLen at h63; omega
  rcases hown.2 with ⟨rfl, rfl⟩ | ⟨g, cap, cur, rfl, hbg, hg, hnc, hcm, hcs, htake⟩
  · by_cases hm : m = 0
    · exact .inl (by rw [h4.2 ⟨rfl, hm⟩])
    · have hx : xs = [] := List.eq_nil_of_length_eq_zero (by simpa using hown.1)
      have hr2 := run_append_nil (P := P) w t ty e i z ht hi hz ad m c news hl hnews (by omega) (by omega) (by have hb := hbytes; simp only [Nat.zero_add] at hb; omega)
      rw [hr] at hr2
      injection hr2 with hv _
      exact .inr (by rw [hv]; rfl)
  · by_cases hroom : n + m ≤ cap
    · have hfit : n * i.size + news.length ≤ cur.size := by rw [hl, hcs, ← Nat.add_mul]; exact Nat.mul_le_mul_right _ hroom
      have hr2 := run_append_room (P := P) w t ty e i ht hi g n cap cur hg ad m c news hl hnews h1 hroom hfit
      rw [hr] at hr2
      injection hr2 with hv _
      exact .inl (by rw [hv]; rfl)
    · have holds : ∀ j u, xs[j]? = some u → w.cell? ((⟨g, 0, none⟩ : Addr).add j) = some u := hown.cells (g := g) rfl
      have hr2 := run_append_grow (P := P) w t ty e i z ht hi hz ⟨g, 0, none⟩ n cap xs hown.1 holds ad m c news hl hnews (by omega) (by omega) (growslice_fits (by omega) hbytes)
      rw [hr] at hr2
      injection hr2 with hv _
      exact .inr (by rw [hv]; rfl)
end
def W3 (w : World) (a b : Value) : World := ((w.alloc (.cells #[a] 24)).alloc (.cells #[b] 24)).alloc (.cells #[.slice none 0 0] 24)
theorem w3_size (w : World) (a b : Value) : (W3 w a b).heap.size = w.heap.size + 3 := by simp [W3]
theorem below_w3 {w W : World} {a b : Value} (h : Below (w.heap.size + 3) (W3 w a b) W) : Below w.heap.size w W :=
  (((((Below.refl _ w).alloc (Nat.le_refl _) _).alloc (by simp) _).alloc (by simp; omega) _).trans (by unfold W3 at h; exact h.mono (by omega)))
theorem ov_boxes {w W : World} {a b : Value} (h : Below (w.heap.size + 3) (W3 w a b) W) : W.cell? ⟨w.heap.size, 0, none⟩ = some a ∧ W.cell? ⟨w.heap.size + 1, 0, none⟩ = some b ∧ W.cell? ⟨w.heap.size + 2, 0, none⟩ = some (.slice none 0 0) ∧ W.frozen? ⟨w.heap.size + 2, 0, none⟩ = false ∧ W.heap[w.heap.size + 2]? = some (.cells #[.slice none 0 0] 24 (0, 0)) ∧ w.heap.size + 2 < W.heap.size := by
  have hs := h.size
  rw [w3_size] at hs
  have h2 : Below ((w.alloc (.cells #[a] 24)).alloc (.cells #[b] 24)).heap.size ((w.alloc (.cells #[a] 24)).alloc (.cells #[b] 24)) W := below_a1 (by unfold W3 at h; simpa using h)
  obtain ⟨b1, _, _⟩ := bx h2
  obtain ⟨a1, _, _⟩ := bx (below_a1 h2)
  have h3 : Below (W3 w a b).heap.size (W3 w a b) W := by rw [w3_size]; exact h
  unfold W3 at h3
  obtain ⟨c1, c2, _⟩ := bx h3
  have hh := heap_below (heap_alloc_new ((w.alloc (.cells #[a] 24)).alloc (.cells #[b] 24)) (.cells #[.slice none 0 0] 24)) h3
  simp only [World.size_alloc] at b1 c1 c2 hh
  exact ⟨a1 0, b1 0, c1 0, c2 0, hh, by omega⟩
def RowC (W : World) (ad : Addr) (k : Nat) (x : Rw × Sl) : Prop := W.cell? (ad.add (k * 4)) = some (.int .i64 (x.1.1 : Int)) ∧ W.cell? ⟨(ad.add (k * 4)).block, (ad.add (k * 4)).off + 1, none⟩ = some (.int .i64 (x.1.2.1 : Int)) ∧ W.cell? ⟨(ad.add (k * 4)).block, (ad.add (k * 4)).off + 2, none⟩ = some (.int .i32 x.1.2.2.1) ∧ W.cell? ⟨(ad.add (k * 4)).block, (ad.add (k * 4)).off + 3, none⟩ = some (.slice x.2.1 x.2.2.1 x.2.2.2)
theorem RowC.step {W W' : World} {ad : Addr} {k : Nat} {x : Rw × Sl} (h : RowC W ad k x) (hb : Below W.heap.size W W') : RowC W' ad k x := by
  obtain ⟨h1, h2, h3, h4⟩ := h
  have hk : ∀ {a : Addr} {v : Value}, W.cell? a = some v → W'.cell? a = some v := fun {a v} e => (hb.cell (World.block_lt_of_cell? _ _ e)).trans e
  exact ⟨hk h1, hk h2, hk h3, hk h4⟩
theorem TbR.rowC {w : World} {B : Nat} {A : Option Addr} {rs : List (Rw × Sl)} (h : TbR w B A rs) {k : Nat} {x : Rw × Sl} (hk : rs[k]? = some x) : ∃ ad, A = some ad ∧ RowC w ad k x ∧ RwOk x.1 ∧ SgOk w B x := by
  obtain ⟨ad, h1, _, h2, h3, h4, h5, h6, h7, _⟩ := h.row hk
  exact ⟨ad, h1, ⟨h2, h3, h4, h5⟩, h6, h7⟩
/-- What stands of the rows that are being made. -/
def OvW (base : Nat) (W0 : World) (v5 : Value) (ts ps : List (Rw × Sl)) (wr : World) : Prop := wr.ownsRow base 73 4 v5 (ts ++ ps).length ((ts ++ ps).flatMap rV) ∧ (∀ x ∈ ps, SgOk wr wr.heap.size x) ∧ Below base W0 wr ∧ base ≤ wr.heap.size
theorem OvW.step {base : Nat} {W0 : World} {v5 : Value} {ts ps : List (Rw × Sl)} {wr w' : World} (h : OvW base W0 v5 ts ps wr) (hb : Below wr.heap.size wr w') : OvW base W0 v5 ts ps w' := by
  obtain ⟨h1, h2, h3, h4⟩ := h
  have := hb.size
  exact ⟨own_below h1 hb, fun x hx => ((h2 x hx).below hb).more hb.size, h3.trans (hb.mono h4), by omega⟩
theorem OvW.alloc {base : Nat} {W0 : World} {v5 : Value} {ts ps : List (Rw × Sl)} {wr : World} (h : OvW base W0 v5 ts ps wr) (o : Obj) : OvW base W0 v5 ts ps (wr.alloc o) := h.step ((Below.refl _ _).alloc (Nat.le_refl _) o)
def R8 (W : World) (B8 : Nat) (x : Rw × Sl) : Prop := W.heap[B8]? = some (.cells #[.int .i64 (x.1.1 : Int), .int .i64 (x.1.2.1 : Int), .int .i32 x.1.2.2.1, .slice x.2.1 x.2.2.1 x.2.2.2] 73 (0, 0))
theorem R8.cells {W : World} {B8 : Nat} {x : Rw × Sl} (h : R8 W B8 x) : W.cell? ⟨B8, 0, none⟩ = some (.int .i64 (x.1.1 : Int)) ∧ W.cell? ⟨B8, 1, none⟩ = some (.int .i64 (x.1.2.1 : Int)) ∧ W.cell? ⟨B8, 2, none⟩ = some (.int .i32 x.1.2.2.1) ∧ W.cell? ⟨B8, 3, none⟩ = some (.slice x.2.1 x.2.2.1 x.2.2.2) := by
  refine ⟨?_, ?_, ?_, ?_⟩ <;> (rw [cell_of_row _ B8 _ _ _ _ h]; rfl)
def Ends (ts : List (Rw × Sl)) (pt cur : Nat) : Prop := pt ≤ ts.length ∧ ∀ j x, j < pt → ts[j]? = some x → x.1.1 + x.1.2.1 ≤ cur
def OuRel (base : Nat) (W0 : World) (ts os : List (Rw × Sl)) (v5 i k : Value) (wr : World) : Prop := ∃ (kn pt lo : Nat) (ps : List (Rw × Sl)), kn ≤ os.length ∧ k = .int .i64 kn ∧ i = .int .i64 pt ∧ Ends ts pt lo ∧ (∀ j y, kn ≤ j → os[j]? = some y → lo ≤ y.1.1) ∧ OvOk ts (fun y => y ∈ prsT (os.take kn)) ps lo ∧ ps.length ≤ lo ∧ lo ≤ 1048576 ∧ OvW base W0 v5 ts ps wr
def MiRel (base : Nat) (W0 : World) (ts os : List (Rw × Sl)) (kn : Nat) (x0 : Rw × Sl) (B8 : Nat) (v5 i f : Value) (wr : World) : Prop := ∃ (cur pt : Nat) (ps : List (Rw × Sl)), f = .int .i64 cur ∧ i = .int .i64 pt ∧ x0.1.1 ≤ cur ∧ cur ≤ x0.1.1 + x0.1.2.1 ∧ Ends ts pt cur ∧ OvOk ts (fun y => y ∈ prsT (os.take kn) ∨ (y ∈ prs x0.1 ∧ y.1 < cur)) ps cur ∧ ps.length ≤ cur ∧ OvW base W0 v5 ts ps wr ∧ R8 wr B8 x0 ∧ some B8 ≠ v5.ownBlock
def InRel (base : Nat) (W0 : World) (ts ps : List (Rw × Sl)) (x0 : Rw × Sl) (B8 cur : Nat) (v5 i : Value) (wr : World) : Prop := ∃ pt : Nat, i = .int .i64 pt ∧ Ends ts pt cur ∧ OvW base W0 v5 ts ps wr ∧ R8 wr B8 x0
theorem TbR.fr_mono {w : World} {B : Nat} {A : Option Addr} {rs : List (Rw × Sl)} (h : TbR w B A rs) {a b : Nat} {x y : Rw × Sl} (hx : rs[a]? = some x) (hy : rs[b]? = some y) (hab : a < b) : x.1.1 + x.1.2.1 ≤ y.1.1 := by
  have hp := h.2.2.1
  rw [List.pairwise_map, List.pairwise_iff_getElem] at hp
  obtain ⟨ha, rfl⟩ := List.getElem?_eq_some_iff.1 hx
  obtain ⟨hb, rfl⟩ := List.getElem?_eq_some_iff.1 hy
  exact hp a b ha hb hab
theorem sg_set1 {w : World} {B g : Nat} {x : Rw × Sl} (h : SgOk w B x) (a : Value) {T1 : TypeId} {c1 : Array Value} (h1 : w.heap[g]? = some (.cells c1 T1 (0, 0))) (n1 : T1 ≠ 21) : SgOk (w.setCell ⟨g, 0, none⟩ a) B x :=
  h.keep fun k _ ⟨cs, fr, hh⟩ => heap_set (by
    rintro rfl
    rw [hh] at h1; injection h1 with h1; injection h1 with _ h1 _; exact n1 h1.symm) a
theorem rds_set1 {w : World} {A : Option Addr} {rs : List (Rw × Sl)} {g base : Nat} (h : RdsR w w.heap.size A rs) (hA : ∀ ad, A = some ad → base ≤ ad.block) (h1 : g < base) (a : Value) : RdsR (w.setCell ⟨g, 0, none⟩ a) w.heap.size A rs := by
  refine ⟨⟨h.1.1, fun h0 => ?_⟩, h.2⟩
  obtain ⟨ad, hA2, hb, hc⟩ := h.1.2 h0
  have hba := hA ad hA2
  refine ⟨ad, hA2, hb, fun j u hu => ?_⟩
  have hbk : (ad.add j).block = ad.block := by unfold Addr.add; split <;> rfl
  rw [cell_set (by omega)]
  exact hc j u hu
def OvPost (ts os : List (Rw × Sl)) (w0 : World) (e : Ending) (w' : World) : Prop := ∃ A c rs, e = .returned (.agg #[.slice A rs.length c]) ∧ rs.length ≤ c ∧ rs.length ≤ ts.length + 1048576 ∧ TbR w' w'.heap.size A rs ∧ prsT rs = overL (prsT ts) (prsT os) ∧ Below w0.heap.size w0 w'
theorem Over_any (At Ao : Option Addr) (ct co : Nat) (ts os : List (Rw × Sl)) (hnt : ts.length ≤ 8388608) (hno : os.length ≤ 8388608) (w : World) (ht : TbR w w.heap.size At ts) (ho : TbR w w.heap.size Ao os) :
    Calls Tryd.prog 36 #[.agg #[.slice At ts.length ct], .agg #[.slice Ao os.length co]] w (OvPost ts os w) := by
  obtain ⟨i0, hi, iz0, iz1, iz2⟩ := info_parts row_info
  generalize hP : OvPost ts os w = P at *
  obtain ⟨W, hW⟩ : ∃ W, W = W3 w (.slice At ts.length ct) (.slice Ao os.length co) := ⟨_, rfl⟩
  have hcl := Clone_any At ct ts (by omega) w.heap.size W ((ht.below (below_w3 (by rw [hW]; exact Below.refl _ _))).1)
  have hbx : ∀ wr, Below (w.heap.size + 3) W wr → wr.cell? ⟨w.heap.size, 0, none⟩ = some (.slice At ts.length ct) ∧ wr.cell? ⟨w.heap.size + 1, 0, none⟩ = some (.slice Ao os.length co) ∧ wr.cell? ⟨w.heap.size + 2, 0, none⟩ = some (.slice none 0 0) ∧ wr.frozen? ⟨w.heap.size + 2, 0, none⟩ = false ∧ wr.heap[w.heap.size + 2]? = some (.cells #[.slice none 0 0] 24 (0, 0)) ∧ w.heap.size + 2 < wr.heap.size := fun wr h => ov_boxes (by rw [← hW]; exact h)
  have hbw : ∀ wr, Below (w.heap.size + 3) W wr → Below w.heap.size w wr := fun wr h => below_w3 (by rw [← hW]; exact h)
  have hWs : W.heap.size = w.heap.size + 3 := by rw [hW, w3_size]
  have hcl2 : ∀ w', w' = W → Calls Tryd.prog 56 #[.slice At ts.length ct] w' fun e w1 => ∃ v, e = .returned v ∧ OvW (w.heap.size + 3) W v ts [] w1 := fun w' h => by
    subst h
    refine hcl.mono ?_
    rintro e w1 ⟨v, rfl, h1, h2⟩
    rw [hWs] at h1 h2
    have := h2.size
    exact ⟨v, rfl, by simpa using h1, by simp, h2, by omega⟩
  unfold W3 at hW
  have hcl3 := hcl2 _ hW.symm
  clear hcl hcl2 hW
  go_enter Tryd.func36, Tryd.ntmps36
  go_wp2_with (go_at_call 56; refine hcl3.mono ?_; rintro e w1 ⟨v5, rfl, hv0⟩; obtain ⟨k0, k1, _, _, _, _⟩ := hbx _ hv0.2.2.1)
  go_loopw [5, 6, 17] (fun v i k wr => OuRel (w.heap.size + 3) W ts os v i k wr) (fun _ _ k _ => os.length - (intOf k).toNat)
  case atStart => exact ⟨0, 0, 0, [], by omega, rfl, rfl, ⟨by omega, fun j x hj => by omega⟩, fun _ _ _ _ => Nat.zero_le _, (ov_nil ts 0).more (fun y _ => by simp [prsT]) (Nat.le_refl _), by simp, by omega, hv0⟩
  case round =>
    obtain ⟨kn, pt, lo, ps, hkn, rfl, rfl, hE, hlow, hov, hpl, hlo, hv⟩ := hrel
    have hvb := hv.2.2.2
    obtain ⟨k0', k1', k2', k3', k4', k5'⟩ := hbx _ hv.2.2.1
    by_cases hlt : kn < os.length
    · obtain ⟨x0, hx0⟩ : ∃ x, os[kn]? = some x := ⟨_, List.getElem?_eq_getElem hlt⟩
      obtain ⟨ado, rfl, ⟨q0, q1, q2, q3⟩, hok0, _⟩ := (ho.below (hbw _ hv.2.2.1)).rowC hx0
      have okr : x0.1.1 + x0.1.2.1 ≤ 1048576 := hok0.2.1
      have okn : 1 ≤ x0.1.2.1 := hok0.1
      have hlx := hlow kn x0 (Nat.le_refl _) hx0
      have htk : ∀ y, y ∈ prsT (os.take (kn + 1)) ↔ y ∈ prsT (os.take kn) ∨ y ∈ prs x0.1 := fun y => by
        have := upTo_snoc os kn x0 hx0
        unfold upTo at this
        rw [show prsT (os.take (kn + 1)) = prsT (os.take kn) ++ prs x0.1 from this, List.mem_append]
      have Htk := Lib.hid htk
      have Hlow := Lib.hid hlow
      have HV := Lib.hid hv
      have HOV := Lib.hid hov
      have HE := Lib.hid hE
      have hv8 := fun o => hv.alloc o
      have h8 : R8 (wr.alloc (.cells #[.int .i64 (x0.1.1 : Int), .int .i64 (x0.1.2.1 : Int), .int .i32 x0.1.2.2.1, .slice x0.2.1 x0.2.2.1 x0.2.2.2] 73)) wr.heap.size x0 := heap_alloc_new wr _
      have H80 := Lib.hid h8
      have HNE := Lib.hid (show some wr.heap.size ≠ u5.ownBlock from fun e => by have := (hv.1.lt wr.heap.size e.symm).2; omega)
      have HV8 := Lib.hid hv8
      clear htk hlow hv hov hE h8 hv8 k0 k1
      go_wp2_with fail
      generalize hB8 : wr.heap.size = B8 at *
      go_loopw [5, 6, 9] (fun v i f wr2 => MiRel (w.heap.size + 3) W ts os kn x0 B8 v i f wr2) (fun _ _ f _ => x0.1.1 + x0.1.2.1 - (intOf f).toNat)
      case atStart => exact ⟨x0.1.1, pt, ps, rfl, rfl, Nat.le_refl _, by omega, ⟨HE.out.1, fun j x h1 h2 => Nat.le_trans (HE.out.2 j x h1 h2) hlx⟩, HOV.out.more (fun y _ => ⟨fun h => .inl h, fun h => h.elim id (fun h => by have := (mem_prs.1 h.1).1; omega)⟩) hlx, by omega, HV8.out _, H80.out, HNE.out⟩
      case round =>
        clear hlx hpl
        obtain ⟨cur, pt, ps, rfl, rfl, hc1, hc2, hE, hov, hpl, hv, h8, hne5⟩ := hrel
        have HNE := Lib.hid hne5
        clear hne5
        obtain ⟨z0, z1, z2, z3⟩ := h8.cells
        have HV := Lib.hid hv
        have H8 := Lib.hid h8
        have HE := Lib.hid hE
        have HOV := Lib.hid hov
        clear hv h8 hE hov
        by_cases hcur : cur < x0.1.1 + x0.1.2.1
        · have hcuri : (cur : Int) < (x0.1.1 : Int) + x0.1.2.1 := by omega
          go_wp2_with (go_at_call 40; refine (End_any _ _ _ _ (by assumption) _).mono ?_; rintro e w4 ⟨rfl, hb4⟩; have HV := Lib.hid (HV.out.step hb4); have H8 := Lib.hid (show R8 w4 B8 x0 from heap_below H8.out hb4); obtain ⟨z0, z1, z2, z3⟩ := H8.out.cells; obtain ⟨kt, _, _, _, _, _⟩ := hbx _ HV.out.2.2.1)
          go_loopw [6] (fun i wr3 => InRel (w.heap.size + 3) W ts ps x0 B8 cur u5 i wr3) (fun i _ => ts.length - (intOf i).toNat)
          case atStart => exact ⟨pt, rfl, HE.out, HV.out, H8.out⟩
          case round =>
            obtain ⟨pt, rfl, hE, hv, h8⟩ := hrel
            obtain ⟨z0, z1, z2, z3⟩ := h8.cells
            obtain ⟨kt, _, _, _, _, _⟩ := hbx _ hv.2.2.1
            have hov := HOV.out
            have HV := Lib.hid hv
            have H8 := Lib.hid h8
            have HEi := Lib.hid hE
            by_cases hpt : pt < ts.length
            · obtain ⟨y, hy⟩ : ∃ y, ts[pt]? = some y := ⟨_, List.getElem?_eq_getElem hpt⟩
              obtain ⟨adt, hAt, hyc, hoky, _⟩ := (ht.below (hbw _ hv.2.2.1)).rowC hy
              subst hAt
              have oky : y.1.1 + y.1.2.1 ≤ 1048576 := hoky.2.1
              have okyn : 1 ≤ y.1.2.1 := hoky.1
              obtain ⟨y0, y1, y2, y3⟩ := hyc
              have HY := Lib.hid (show RowC _ adt pt y from ⟨y0, y1, y2, y3⟩)
              by_cases hle : y.1.1 + y.1.2.1 ≤ cur
              · have hlei : (y.1.1 : Int) + y.1.2.1 ≤ (cur : Int) := by omega
                have hE2 : Ends ts (pt + 1) cur := ⟨by omega, fun j x h1 h2 => by
                  rcases Nat.lt_or_ge j pt with h3 | h3
                  · exact hE.2 j x h3 h2
                  · obtain rfl : j = pt := by omega
                    rw [hy] at h2; injection h2 with h2; subst h2; exact hle⟩
                have HE2 := Lib.hid hE2
                clear hE hv h8 hov hE2
                go_wp2_with (go_at_call 40; refine (End_any _ _ _ _ (by assumption) _).mono ?_; rintro e w4 ⟨rfl, hb4⟩; have HV := Lib.hid (HV.out.step hb4); have H8 := Lib.hid (show R8 w4 B8 x0 from heap_below H8.out hb4); obtain ⟨z0, z1, z2, z3⟩ := H8.out.cells; obtain ⟨kt, _, _, _, _, _⟩ := hbx _ HV.out.2.2.1; have HY := Lib.hid (HY.out.step hb4); obtain ⟨y0, y1, y2, y3⟩ := HY.out)
                refine ⟨⟨pt + 1, by simp, HE2.out, HV.out, H8.out⟩, by simp [intOf]; omega⟩
              · have hlei : ¬ (y.1.1 : Int) + y.1.2.1 ≤ (cur : Int) := by omega
                by_cases hfy : y.1.1 ≤ cur
                · have hfyi : (y.1.1 : Int) ≤ (cur : Int) := by omega
                  obtain ⟨mn, hmn⟩ : ∃ m : Nat, m = min (x0.1.1 + x0.1.2.1) (y.1.1 + y.1.2.1) := ⟨_, rfl⟩
                  have hmni : min ((x0.1.1 : Int) + x0.1.2.1) ((y.1.1 : Int) + y.1.2.1) = (mn : Int) := by omega
                  have hmn1 : cur < mn ∧ mn ≤ x0.1.1 + x0.1.2.1 ∧ mn ≤ y.1.1 + y.1.2.1 := by omega
                  clear hmn
                  have hE2 : Ends ts pt mn := ⟨hE.1, fun j x h1 h2 => Nat.le_trans (hE.2 j x h1 h2) (by omega)⟩
                  have hov2 : OvOk ts (fun z => z ∈ prsT (os.take kn) ∨ (z ∈ prs x0.1 ∧ z.1 < mn)) ps mn := hov.more (fun z hz => by
                    constructor
                    · rintro (h | ⟨h, h2⟩)
                      · exact .inl h
                      · exact .inr ⟨h, by omega⟩
                    · rintro (h | ⟨h, h2⟩)
                      · exact .inl h
                      · rcases Nat.lt_or_ge z.1 cur with h3 | h3
                        · exact .inr ⟨h, h3⟩
                        · exfalso
                          have : hasC (prsT ts) z.1 = true := hasT.2 ⟨y, List.mem_of_getElem? hy, by omega, by omega⟩
                          rw [hz] at this; cases this) (by omega)
                  have HE2 := Lib.hid hE2
                  have HOV2 := Lib.hid hov2
                  clear hE hv h8 hov hE2 hov2
                  go_wp2_with (go_at_call 40; refine (End_any _ _ _ _ (by assumption) _).mono ?_; rintro e w4 ⟨rfl, hb4⟩; have HV := Lib.hid (HV.out.step hb4); have H8 := Lib.hid (show R8 w4 B8 x0 from heap_below H8.out hb4); obtain ⟨z0, z1, z2, z3⟩ := H8.out.cells; obtain ⟨kt, _, _, _, _, _⟩ := hbx _ HV.out.2.2.1; have HY := Lib.hid (HY.out.step hb4); obtain ⟨y0, y1, y2, y3⟩ := HY.out)
                  refine ⟨⟨mn, pt, ps, rfl, rfl, by omega, by omega, HE2.out, HOV2.out, by omega, HV.out, H8.out, HNE.out⟩, by simp [intOf]; omega⟩
                · have hfyi : ¬ (y.1.1 : Int) ≤ (cur : Int) := by omega
                  obtain ⟨en, hen⟩ : ∃ en, en = min (x0.1.1 + x0.1.2.1) y.1.1 := ⟨_, rfl⟩
                  have hen1 : cur < en := by omega
                  have hen2 : en ≤ x0.1.1 + x0.1.2.1 := by omega
                  have hmni : min ((x0.1.1 : Int) + x0.1.2.1) (y.1.1 : Int) = (en : Int) := by omega
                  have hnc : ∀ c, cur ≤ c → c < en → hasC (prsT ts) c = false := fun c hc1 hc2 => by
                    cases hb : hasC (prsT ts) c with
                    | false => rfl
                    | true =>
                      exfalso
                      obtain ⟨x, hx, g1, g2⟩ := hasT.1 hb
                      obtain ⟨j, hj, rfl⟩ := List.getElem_of_mem hx
                      rcases Nat.lt_or_ge j pt with h1 | h1
                      · have := hE.2 j _ h1 (List.getElem?_eq_getElem hj); omega
                      · rcases Nat.lt_or_ge pt j with h2 | h2
                        · have := ht.fr_mono hy (List.getElem?_eq_getElem hj) h2; omega
                        · obtain rfl : j = pt := by omega
                          rw [List.getElem?_eq_getElem hj] at hy; injection hy with hy; subst hy; omega
                  have hnew := fun q => hov.part (q := q) hok0 hc1 hen1 hen2 hnc
                  have Hnew := Lib.hid hnew
                  have hpart : ∀ (W' : World), Below w.heap.size w W' → Calls Tryd.prog 57 #[.agg #[.int .i64 (x0.1.1 : Int), .int .i64 (x0.1.2.1 : Int), .int .i32 x0.1.2.2.1, .slice x0.2.1 x0.2.2.1 x0.2.2.2], .int .i64 (cur : Int), .int .i64 (en : Int)] W' fun e w' => ∃ q : Sl, e = .returned (.agg #[.int .i64 (cur : Int), .int .i64 ((en - cur : Nat) : Int), .int .i32 (partR x0.1 cur en).2.2.1, .slice q.1 q.2.1 q.2.2]) ∧ SgOk w' W'.heap.size (partR x0.1 cur en, q) ∧ Below W'.heap.size W' w' := fun W' hB => Part_any x0 cur en hok0 hc1 hen1 hen2 W' (((ho.2.1 x0 (List.mem_of_getElem? hx0)).2.below hB).more hB.size)
                  have hpl : (ts ++ ps).length ≤ 9437184 := by rw [List.length_append]; omega
                  clear hnew hnc hov hen
                  go_wp2_with (first | (go_at_call 40; refine (End_any _ _ _ _ (by assumption) _).mono ?_; rintro e w4 ⟨rfl, hb4⟩; have HV := Lib.hid (HV.out.step hb4); have H8 := Lib.hid (show R8 w4 B8 x0 from heap_below H8.out hb4); obtain ⟨z0, z1, z2, z3⟩ := H8.out.cells; obtain ⟨kt, _, _, _, _, _⟩ := hbx _ HV.out.2.2.1; have HY := Lib.hid (HY.out.step hb4); obtain ⟨y0, y1, y2, y3⟩ := HY.out) | (go_at_call 57; refine (hpart _ (hbw _ HV.out.2.2.1)).mono ?_; rintro e w6 ⟨q6, rfl, hsg6, hb6⟩; have HV := Lib.hid (HV.out.step hb6); have H8 := Lib.hid (show R8 w6 B8 x0 from heap_below H8.out hb6); have HSG := Lib.hid (hsg6.more hb6.size)) | (at_builtin; obtain ⟨v7, w7, hrun, hown7, hg7, hloc⟩ := app_loc (P := Tryd.prog) (w6.alloc (.cells #[.int .i64 (cur : Int), .int .i64 ((en - cur : Nat) : Int), .int .i32 (partR x0.1 cur en).2.2.1, .slice q6.1 q6.2.1 q6.2.2] 73)) (w.heap.size + 3) 22 22 73 i0 _ 4 48 Tryd.underlying22 hi iz0 iz1 iz2 rfl (by decide) _ (ts ++ ps).length _ ((HV.out.alloc _).1) ⟨w6.heap.size, 0, none⟩ 1 1 [.int .i64 (cur : Int), .int .i64 ((en - cur : Nat) : Int), .int .i32 (partR x0.1 cur en).2.2.1, .slice q6.1 q6.2.1 q6.2.2] rfl (four_new w6 _ _ _ _ _) (by intro u hu; simp only [List.mem_cons, List.not_mem_nil, or_false] at hu; rcases hu with rfl | rfl | rfl | rfl <;> rfl) (by unfold maxLen; omega) (by omega) (by have := HV.out.2.2.2; simp; omega); refine Lib.wpList_append_run _ rfl _ _ _ _ rfl _ _ rfl rfl _ _ hrun ?_; clear hrun; have HOWN := Lib.hid hown7; have HG7 := Lib.hid hg7; have HLOC := Lib.hid hloc; clear hown7 hg7 hloc))
                  have HV6 := HV.out.alloc (.cells #[.int .i64 (cur : Int), .int .i64 ((en - cur : Nat) : Int), .int .i32 (partR x0.1 cur en).2.2.1, .slice q6.1 q6.2.1 q6.2.2] 73)
                  have HB7 := below_grownOwn HV6.2.2.1 HV6.1 HG7.out HV6.2.2.2 (Nat.le_refl _)
                  have hsg7 : ∀ x ∈ ps ++ [(partR x0.1 cur en, q6)], SgOk w7 w7.heap.size x := fun x hx => by
                    rcases List.mem_append.1 hx with h1 | h1
                    · exact (sg_grown (HV6.2.1 x h1) HV6.1 (by decide) HG7.out (Nat.le_refl _)).more HG7.out.size
                    · simp only [List.mem_singleton] at h1
                      subst h1
                      exact (sg_grown ((HSG.out.below ((Below.refl _ _).alloc (Nat.le_refl _) _)).more (by simp)) HV6.1 (by decide) HG7.out (Nat.le_refl _)).more HG7.out.size
                  have hl8 := (Array.getElem?_eq_some_iff.1 H8.out).1
                  have h88 := (Below.heap_alloc w6 (.cells #[.int .i64 (cur : Int), .int .i64 ((en - cur : Nat) : Int), .int .i32 (partR x0.1 cur en).2.2.1, .slice q6.1 q6.2.1 q6.2.2] 73) _ hl8).trans H8.out
                  refine ⟨⟨en, pt, ps ++ [(partR x0.1 cur en, q6)], rfl, (by first | rfl | rw [hptn]), by omega, by omega, ⟨HEi.out.1, fun j x h1 h2 => Nat.le_trans (HEi.out.2 j x h1 h2) (by omega)⟩, (Hnew.out q6).more (fun z _ => ?_) (Nat.le_refl _), by rw [List.length_append, List.length_singleton]; omega, ⟨?_, hsg7, HB7, by have := HG7.out.size; have := HV6.2.2.2; omega⟩, (HG7.out.block _ (by simp; omega) HNE.out).trans h88, fun e => HLOC.out.elim (fun h => HNE.out (e.trans h)) (fun h => by rw [h] at e; injection e with e; simp at e; omega)⟩, by simp [intOf]; omega⟩
                  · constructor
                    · rintro ((h | ⟨h, h2⟩) | ⟨h, h2, h3⟩)
                      · exact .inl h
                      · exact .inr ⟨h, by omega⟩
                      · exact .inr ⟨h, h3⟩
                    · rintro (h | ⟨h, h2⟩)
                      · exact .inl (.inl h)
                      · rcases Nat.lt_or_ge z.1 cur with h3 | h3
                        · exact .inl (.inr ⟨h, h3⟩)
                        · exact .inr ⟨h, h3, h2⟩
                  · have := HOWN.out
                    rw [← List.append_assoc, List.length_append, List.flatMap_append]
                    simpa [rV, slV, partR] using this
            · have hptn : pt = ts.length := by have := hE.1; omega
              have hpti : ¬ (pt : Int) < (ts.length : Int) := by omega
              obtain ⟨en, hen⟩ : ∃ en, en = x0.1.1 + x0.1.2.1 := ⟨_, rfl⟩
              have hen1 : cur < en := by omega
              have hen2 : en ≤ x0.1.1 + x0.1.2.1 := by omega
              have heni : (x0.1.1 : Int) + x0.1.2.1 = (en : Int) := by omega
              have hnc : ∀ c, cur ≤ c → c < en → hasC (prsT ts) c = false := fun c hc1 hc2 => by
                cases hb : hasC (prsT ts) c with
                | false => rfl
                | true =>
                  exfalso
                  obtain ⟨x, hx, g1, g2⟩ := hasT.1 hb
                  obtain ⟨j, hj, rfl⟩ := List.getElem_of_mem hx
                  rcases Nat.lt_or_ge j pt with h1 | h1
                  · have := hE.2 j _ h1 (List.getElem?_eq_getElem hj); omega
                  · omega
              have hnew := fun q => hov.part (q := q) hok0 hc1 hen1 hen2 hnc
              have Hnew := Lib.hid hnew
              have hpart : ∀ (W' : World), Below w.heap.size w W' → Calls Tryd.prog 57 #[.agg #[.int .i64 (x0.1.1 : Int), .int .i64 (x0.1.2.1 : Int), .int .i32 x0.1.2.2.1, .slice x0.2.1 x0.2.2.1 x0.2.2.2], .int .i64 (cur : Int), .int .i64 (en : Int)] W' fun e w' => ∃ q : Sl, e = .returned (.agg #[.int .i64 (cur : Int), .int .i64 ((en - cur : Nat) : Int), .int .i32 (partR x0.1 cur en).2.2.1, .slice q.1 q.2.1 q.2.2]) ∧ SgOk w' W'.heap.size (partR x0.1 cur en, q) ∧ Below W'.heap.size W' w' := fun W' hB => Part_any x0 cur en hok0 hc1 hen1 hen2 W' (((ho.2.1 x0 (List.mem_of_getElem? hx0)).2.below hB).more hB.size)
              have hpl : (ts ++ ps).length ≤ 9437184 := by rw [List.length_append]; omega
              clear hnew hnc hov hen
              go_wp2_with (first | (go_at_call 40; refine (End_any _ _ _ _ (by assumption) _).mono ?_; rintro e w4 ⟨rfl, hb4⟩; have HV := Lib.hid (HV.out.step hb4); have H8 := Lib.hid (show R8 w4 B8 x0 from heap_below H8.out hb4); obtain ⟨z0, z1, z2, z3⟩ := H8.out.cells; obtain ⟨kt, _, _, _, _, _⟩ := hbx _ HV.out.2.2.1) | (go_at_call 57; refine (hpart _ (hbw _ HV.out.2.2.1)).mono ?_; rintro e w6 ⟨q6, rfl, hsg6, hb6⟩; have HV := Lib.hid (HV.out.step hb6); have H8 := Lib.hid (show R8 w6 B8 x0 from heap_below H8.out hb6); have HSG := Lib.hid (hsg6.more hb6.size)) | (at_builtin; obtain ⟨v7, w7, hrun, hown7, hg7, hloc⟩ := app_loc (P := Tryd.prog) (w6.alloc (.cells #[.int .i64 (cur : Int), .int .i64 ((en - cur : Nat) : Int), .int .i32 (partR x0.1 cur en).2.2.1, .slice q6.1 q6.2.1 q6.2.2] 73)) (w.heap.size + 3) 22 22 73 i0 _ 4 48 Tryd.underlying22 hi iz0 iz1 iz2 rfl (by decide) _ (ts ++ ps).length _ ((HV.out.alloc _).1) ⟨w6.heap.size, 0, none⟩ 1 1 [.int .i64 (cur : Int), .int .i64 ((en - cur : Nat) : Int), .int .i32 (partR x0.1 cur en).2.2.1, .slice q6.1 q6.2.1 q6.2.2] rfl (four_new w6 _ _ _ _ _) (by intro u hu; simp only [List.mem_cons, List.not_mem_nil, or_false] at hu; rcases hu with rfl | rfl | rfl | rfl <;> rfl) (by unfold maxLen; omega) (by omega) (by have := HV.out.2.2.2; simp; omega); refine Lib.wpList_append_run _ rfl _ _ _ _ rfl _ _ rfl rfl _ _ hrun ?_; clear hrun; have HOWN := Lib.hid hown7; have HG7 := Lib.hid hg7; have HLOC := Lib.hid hloc; clear hown7 hg7 hloc))
              have HV6 := HV.out.alloc (.cells #[.int .i64 (cur : Int), .int .i64 ((en - cur : Nat) : Int), .int .i32 (partR x0.1 cur en).2.2.1, .slice q6.1 q6.2.1 q6.2.2] 73)
              have HB7 := below_grownOwn HV6.2.2.1 HV6.1 HG7.out HV6.2.2.2 (Nat.le_refl _)
              have hsg7 : ∀ x ∈ ps ++ [(partR x0.1 cur en, q6)], SgOk w7 w7.heap.size x := fun x hx => by
                rcases List.mem_append.1 hx with h1 | h1
                · exact (sg_grown (HV6.2.1 x h1) HV6.1 (by decide) HG7.out (Nat.le_refl _)).more HG7.out.size
                · simp only [List.mem_singleton] at h1
                  subst h1
                  exact (sg_grown ((HSG.out.below ((Below.refl _ _).alloc (Nat.le_refl _) _)).more (by simp)) HV6.1 (by decide) HG7.out (Nat.le_refl _)).more HG7.out.size
              have hl8 := (Array.getElem?_eq_some_iff.1 H8.out).1
              have h88 := (Below.heap_alloc w6 (.cells #[.int .i64 (cur : Int), .int .i64 ((en - cur : Nat) : Int), .int .i32 (partR x0.1 cur en).2.2.1, .slice q6.1 q6.2.1 q6.2.2] 73) _ hl8).trans H8.out
              refine ⟨⟨en, pt, ps ++ [(partR x0.1 cur en, q6)], rfl, (by first | rfl | rw [hptn]), by omega, by omega, ⟨HEi.out.1, fun j x h1 h2 => Nat.le_trans (HEi.out.2 j x h1 h2) (by omega)⟩, (Hnew.out q6).more (fun z _ => ?_) (Nat.le_refl _), by rw [List.length_append, List.length_singleton]; omega, ⟨?_, hsg7, HB7, by have := HG7.out.size; have := HV6.2.2.2; omega⟩, (HG7.out.block _ (by simp; omega) HNE.out).trans h88, fun e => HLOC.out.elim (fun h => HNE.out (e.trans h)) (fun h => by rw [h] at e; injection e with e; simp at e; omega)⟩, by simp [intOf]; omega⟩
              · constructor
                · rintro ((h | ⟨h, h2⟩) | ⟨h, h2, h3⟩)
                  · exact .inl h
                  · exact .inr ⟨h, by omega⟩
                  · exact .inr ⟨h, h3⟩
                · rintro (h | ⟨h, h2⟩)
                  · exact .inl (.inl h)
                  · rcases Nat.lt_or_ge z.1 cur with h3 | h3
                    · exact .inl (.inr ⟨h, h3⟩)
                    · exact .inr ⟨h, h3, h2⟩
              · have := HOWN.out
                rw [← List.append_assoc, List.length_append, List.flatMap_append]
                simpa [rV, slV, partR] using this
        · have hcure : cur = x0.1.1 + x0.1.2.1 := by omega
          have hcuri : ¬ (cur : Int) < (x0.1.1 : Int) + x0.1.2.1 := by omega
          go_wp2_with (go_at_call 40; refine (End_any _ _ _ _ (by assumption) _).mono ?_; rintro e w4 ⟨rfl, hb4⟩; have HV := Lib.hid (HV.out.step hb4); have H8 := Lib.hid (show R8 w4 B8 x0 from heap_below H8.out hb4); obtain ⟨z0, z1, z2, z3⟩ := H8.out.cells; obtain ⟨kt, _, _, _, _, _⟩ := hbx _ HV.out.2.2.1)
          refine ⟨⟨kn + 1, pt, cur, ps, by omega, by simp, rfl, HE.out, fun j y h1 h2 => by have := ho.fr_mono hx0 h2 (by omega); omega, HOV.out.more (fun z _ => ?_) (Nat.le_refl _), hpl, by omega, HV.out⟩, by simp [intOf]; omega⟩
          rw [Htk.out]
          constructor
          · rintro (h | ⟨h, h2⟩)
            · exact .inl h
            · exact .inr h
          · rintro (h | h)
            · exact .inl h
            · exact .inr ⟨h, by have := (mem_prs.1 h).2.1; omega⟩
    · obtain rfl : kn = os.length := by omega
      rw [List.take_length] at hov
      obtain ⟨A5, c5, hv5, hc5, _⟩ := Reads.of_own hv.1
      obtain ⟨nn, hnn⟩ : ∃ n, n = (ts ++ ps).length := ⟨_, rfl⟩
      rw [← hnn] at hv5
      subst hv5
      have hbf := ByFrom_any (w.heap.size + 3) (.slice A5 nn c5) (ts ++ ps) wr hv.1 hvb (by rw [List.length_append]; omega)
      have Hlt5 := Lib.hid (show ∀ ad, A5 = some ad → w.heap.size + 3 ≤ ad.block from fun ad h => (hv.1.lt ad.block (by rw [h]; rfl)).1)
      have HV := Lib.hid hv
      have HOV := Lib.hid hov
      have Hnn := Lib.hid hnn
      clear hv hov hE hlow hnn
      go_wp2_with (go_at_call 45; refine hbf.mono ?_; rintro e w9 ⟨rfl, A6, c6, rs', hv6, hc6, hperm, hsort, hrd, hbb, hgr9⟩; have HB9 := HV.out.2.2.1.trans hbb; obtain ⟨_, _, c2, f2, n2, g2⟩ := hbx _ HB9; injection hv6 with hA6 hx6 hcc6; clear hx6; subst hA6; subst hcc6; have Hperm := Lib.hid hperm; have Hsort := Lib.hid hsort; have Hrd := Lib.hid hrd; clear hperm hsort hrd)
      obtain ⟨hro, hprs⟩ := ov_end ht.2.2 ho.2.2 HOV.out Hperm.out Hsort.out
      have hlen : rs'.length = nn := Hperm.out.length_eq.trans Hnn.out.symm
      have hnl : nn = ts.length + ps.length := Hnn.out.trans List.length_append
      have hsg9 : ∀ x ∈ rs', SgOk w9 w9.heap.size x := fun x hx => by
        rcases List.mem_append.1 (Hperm.out.mem_iff.1 hx) with h1 | h1
        · exact ((ht.2.1 x h1).2.below (hbw _ HB9)).more (hbw _ HB9).size
        · exact (sg_grown (HV.out.2.1 x h1) HV.out.1 (by decide) hgr9 (Nat.le_refl _)).more hgr9.size
      have hf : P (.returned (.agg #[.slice A5 nn c5])) (w9.setCell ⟨w.heap.size + 2, 0, none⟩ (.slice A5 nn c5)) := by
        rw [← hP]
        refine ⟨A5, c5, rs', by rw [hlen], by rw [hlen, Hnn.out]; exact hc5, by omega, ⟨?_, fun x hx => ⟨hro.2 _ (List.mem_map_of_mem hx), ?_⟩, hro⟩, hprs, (hbw _ HB9).setCell (by simp) _⟩
        · rw [show (w9.setCell ⟨w.heap.size + 2, 0, none⟩ (.slice A5 nn c5)).heap.size = w9.heap.size by simp]
          exact rds_set1 Hrd.out Hlt5.out (by omega) _
        · rw [show (w9.setCell ⟨w.heap.size + 2, 0, none⟩ (.slice A5 nn c5)).heap.size = w9.heap.size by simp]
          exact sg_set1 (hsg9 x hx) _ n2 (by decide)
      refine bodyPost_ret (v := .agg #[.slice A5 nn c5]) (by simp [results, Tryd.results36, go_sem, c2]) rfl ?_
      exact hf
end Go.Proofs.YtpnjandlpbjddabDoor

/- Contracts of the reference's Find, Reverse. -/
set_option maxRecDepth 100000
set_option maxHeartbeats 1000000
namespace Go.Proofs.YtpnjandlpbjddabDoor
open Go Go.RowKit

/-- Pairs as they lie. -/
def PrsL (w : World) (B : Nat) (A : Option Addr) (l : List Pr) : Prop := Reads w B 2 A l.length (l.flatMap prV)
theorem PrsL.below {w w' : World} {B : Nat} {A : Option Addr} {l : List Pr} (h : PrsL w B A l) (hb : Below B w w') : PrsL w' B A l := Reads.below h hb
theorem PrsL.more {w : World} {B B' : Nat} {A : Option Addr} {l : List Pr} (h : PrsL w B A l) (hb : B ≤ B') : PrsL w B' A l := Reads.more h hb
theorem PrsL.nil (w : World) (B : Nat) (A : Option Addr) : PrsL w B A [] := Reads.none_
theorem flat2_at : ∀ (l : List Pr) (k i : Nat) (x : Pr), l[k]? = some x → i < 2 → (l.flatMap prV)[k * 2 + i]? = (prV x)[i]?
  | [], k, i, x, h, _ => by simp at h
  | a :: l, 0, i, x, h, hi => by
    simp at h; subst h
    rw [List.flatMap_cons, Nat.zero_mul, Nat.zero_add, List.getElem?_append_left (by simpa [prV] using hi)]
  | a :: l, k + 1, i, x, h, hi => by
    rw [List.flatMap_cons, List.getElem?_append_right (by simp [prV]; omega), show (prV a).length = 2 from rfl, show (k + 1) * 2 + i - 2 = k * 2 + i by omega]
    exact flat2_at l k i x (by simpa using h) hi
theorem PrsL.pair {w : World} {B : Nat} {A : Option Addr} {l : List Pr} (h : PrsL w B A l) {k : Nat} {x : Pr} (hk : l[k]? = some x) :
    ∃ ad, A = some ad ∧ ad.block < B ∧ w.cell? (ad.add (k * 2)) = some (.int .i64 (x.1 : Int)) ∧ w.cell? ⟨(ad.add (k * 2)).block, (ad.add (k * 2)).off + 1, none⟩ = some (.int .i32 x.2) ∧ ∀ j u, (prV x)[j]? = some u → w.cell? ((ad.add (k * 2)).add j) = some u := by
  have hlt : k < l.length := (List.getElem?_eq_some_iff.1 hk).1
  obtain ⟨ad, hA, hb, hc⟩ := h.2 (by omega)
  have hg : ∀ i u, (prV x)[i]? = some u → i < 2 → w.cell? (ad.add (k * 2 + i)) = some u := fun i u hu hi => hc _ _ ((flat2_at l k i x hk hi).trans hu)
  have g0 := hg 0 _ rfl (by omega)
  have g1 := hg 1 _ rfl (by omega)
  rw [Nat.add_zero] at g0
  rw [add_more _ _ _ (by omega)] at g1
  refine ⟨ad, hA, hb, g0, g1, fun j u hu => ?_⟩
  have hj : j < 2 := by have := (List.getElem?_eq_some_iff.1 hu).1; exact this
  rw [addr_add]
  exact hg j u hu hj
/-- The place of a code; -1. -/
def fndL (l : List Pr) (code : Int) : Int := match l.findIdx? fun x => decide ((x.1 : Int) = code) with
  | some i => (i : Int)
  | none => -1
def FndRel (l : List Pr) (code : Int) (w0 : World) (i : Value) (wr : World) : Prop := ∃ k : Nat, k ≤ l.length ∧ i = .int .i64 k ∧ (∀ j x, j < k → l[j]? = some x → (x.1 : Int) ≠ code) ∧ Below w0.heap.size w0 wr
theorem find_at {α : Type} {p : α → Bool} {l : List α} {k : Nat} {x : α} (hx : l[k]? = some x) (hp : p x = true) (hn : ∀ j y, j < k → l[j]? = some y → p y = false) : l.findIdx? p = some k := by
  obtain ⟨h1, h2⟩ := List.getElem?_eq_some_iff.1 hx
  rw [List.findIdx?_eq_some_iff_getElem]
  exact ⟨h1, by rw [h2]; exact hp, fun j hj => by rw [hn j _ hj (List.getElem?_eq_getElem (by omega))]; simp⟩
theorem find_no {α : Type} {p : α → Bool} {l : List α} (hn : ∀ j y, j < l.length → l[j]? = some y → p y = false) : l.findIdx? p = none := by
  rw [List.findIdx?_eq_none_iff]
  intro x hx
  obtain ⟨j, hj⟩ := List.getElem?_of_mem hx
  exact hn j x (List.getElem?_eq_some_iff.1 hj).1 hj
/-- The least code of a sign, in pairs by rising codes; -1. -/
def revP (l : List Pr) (p : Int) : Int := match l.find? fun x => x.2 == p with
  | some x => (x.1 : Int)
  | none => -1
def RevRel (l : List Pr) (p : Int) (w0 : World) (i : Value) (wr : World) : Prop := ∃ k : Nat, k ≤ l.length ∧ i = .int .i64 k ∧ (l.find? fun x => x.2 == p) = ((l.drop k).find? fun x => x.2 == p) ∧ Below w0.heap.size w0 wr
end Go.Proofs.YtpnjandlpbjddabDoor

/- Contracts of the reference's Put, Join, Over. -/
set_option maxRecDepth 100000
set_option maxHeartbeats 4000000
namespace Go.Proofs.YtpnjandlpbjddabDoor
open Go Go.RowKit

def PuPost (L : List Pr) (w0 : World) (e : Ending) (w' : World) : Prop := ∃ A c, e = .returned (.slice A L.length c) ∧ L.length ≤ c ∧ PrsL w' w'.heap.size A L ∧ Below w0.heap.size w0 w'
theorem own2_snoc {w : World} {base : Nat} {T : TypeId} {v : Value} {L : List Pr} {x : Pr} (h : w.ownsRow base T 2 v (L.length + 1) (L.flatMap prV ++ [.int .i64 (x.1 : Int), .int .i32 x.2])) : w.ownsRow base T 2 v (L ++ [x]).length ((L ++ [x]).flatMap prV) := by
  rw [List.flatMap_append, List.length_append]
  simpa [prV] using h
section
variable {ops : Array Oper} {rest : List Oper} {o : Oper} {a : Act} {Q : Exit → Act → World → Prop}
end
theorem putL_len (p : Pr) : ∀ l : List Pr, (putL l p).length = l.length + 1
  | [] => rfl
  | a :: l => by
    unfold putL
    split
    · simp
    · simp [putL_len p l]
theorem drop_at {α : Type} {l : List α} {k : Nat} {x : α} (h : l[k]? = some x) : l.drop k = x :: l.drop (k + 1) := by
  obtain ⟨h1, h2⟩ := List.getElem?_eq_some_iff.1 h
  rw [List.drop_eq_getElem_cons h1, h2]
end Go.Proofs.YtpnjandlpbjddabDoor

/- Contracts of the reference's Join, Over. -/
set_option maxRecDepth 100000
set_option maxHeartbeats 4000000
namespace Go.Proofs.YtpnjandlpbjddabDoor
open Go Go.RowKit

theorem fnd_has (l : List Pr) (c : Nat) : (0 ≤ fndL l (c : Int)) ↔ hasC l c = true := by
  unfold fndL
  rw [hasC_iff]
  cases h : l.findIdx? fun x => decide ((x.1 : Int) = (c : Int)) with
  | none =>
    rw [List.findIdx?_eq_none_iff] at h
    constructor
    · intro h2; simp only at h2; omega
    · rintro ⟨x, hx, hc⟩
      have := h x hx
      simp at this
      omega
  | some i =>
    rw [List.findIdx?_eq_some_iff_getElem] at h
    obtain ⟨h1, h2, _⟩ := h
    refine ⟨fun _ => ⟨l[i], List.getElem_mem h1, ?_⟩, fun _ => by simp only; omega⟩
    simp at h2
    omega
def JnPost (l more : List Pr) (w0 : World) (e : Ending) (w' : World) : Prop := (match joinL l more with
  | none => e = .returned (.tuple #[.slice none 0 0, .bool false])
  | some L => ∃ A c, e = .returned (.tuple #[.slice A L.length c, .bool true]) ∧ L.length ≤ c ∧ PrsL w' w'.heap.size A L) ∧ Below w0.heap.size w0 w'
def JaRel (l more : List Pr) (w0 : World) (i : Value) (wr : World) : Prop := ∃ k : Nat, k ≤ more.length ∧ i = .int .i64 k ∧ (∀ m ∈ more.take k, hasC l m.1 = false) ∧ Below w0.heap.size w0 wr
def JbRel (l more : List Pr) (w0 : World) (v i : Value) (wr : World) : Prop := ∃ (k : Nat) (A : Option Addr) (c : Nat) (L : List Pr), k ≤ more.length ∧ i = .int .i64 k ∧ v = .slice A L.length c ∧ L.length ≤ c ∧ L = (more.take k).foldl putL l ∧ L.length ≤ l.length + k ∧ PrsL wr wr.heap.size A L ∧ Below w0.heap.size w0 wr
theorem take_snoc {α : Type} {l : List α} {k : Nat} {x : α} (h : l[k]? = some x) : l.take (k + 1) = l.take k ++ [x] := by
  rw [List.take_add_one, h]; rfl
def OfRel (l more : List Pr) (w0 : World) (v i : Value) (wr : World) : Prop := ∃ (k : Nat) (A : Option Addr) (c : Nat) (L : List Pr), k ≤ more.length ∧ i = .int .i64 k ∧ v = .slice A L.length c ∧ L.length ≤ c ∧ L = overL l (more.take k) ∧ L.length ≤ l.length + k ∧ PrsL wr wr.heap.size A L ∧ Below w0.heap.size w0 wr
theorem over_snoc {l more : List Pr} {k : Nat} {x : Pr} (h : more[k]? = some x) : overL l (more.take (k + 1)) = if hasC l x.1 = true then overL l (more.take k) else putL (overL l (more.take k)) x := by
  unfold overL
  rw [take_snoc h, List.foldl_append]; rfl
end Go.Proofs.YtpnjandlpbjddabDoor

/- Contract of the reference's Piece. -/
set_option maxRecDepth 100000
set_option maxHeartbeats 4000000
namespace Go.Proofs.YtpnjandlpbjddabDoor
open Go Go.RowKit

def RpPost (p : Pce) (w0 : World) (e : Ending) (w' : World) : Prop := (match rowOf p with
  | none => e = .returned (.tuple #[.slice none 0 0, .bool false])
  | some r => ∃ A c, e = .returned (.tuple #[.slice A (prs r).length c, .bool true]) ∧ (prs r).length ≤ c ∧ PrsL w' w'.heap.size A (prs r)) ∧ Below w0.heap.size w0 w'
end Go.Proofs.YtpnjandlpbjddabDoor

/- Contracts of the law's Light, made, table, Is; what New makes, as a table with the document's pairs. -/
set_option maxRecDepth 100000
set_option maxHeartbeats 4000000
namespace Go.Proofs.YtpnjandlpbjddabDoor
open Go Go.RowKit

def PcsL (w : World) (B : Nat) (A : Option Addr) (l : List Pce) : Prop := Reads w B 4 A l.length (l.flatMap pV)
theorem PcsL.below {w w' : World} {B : Nat} {A : Option Addr} {l : List Pce} (h : PcsL w B A l) (hb : Below B w w') : PcsL w' B A l := Reads.below h hb
theorem PcsL.more {w : World} {B B' : Nat} {A : Option Addr} {l : List Pce} (h : PcsL w B A l) (hb : B ≤ B') : PcsL w B' A l := Reads.more h hb
theorem PcsL.piece {w : World} {B : Nat} {A : Option Addr} {l : List Pce} (h : PcsL w B A l) {k : Nat} {p : Pce} (hk : l[k]? = some p) :
    ∃ ad, A = some ad ∧ ad.block < B ∧ w.cell? (ad.add (k * 4)) = some (.int .i64 p.1) ∧ w.cell? ⟨(ad.add (k * 4)).block, (ad.add (k * 4)).off + 1, none⟩ = some (.int .i32 p.2.1) ∧
      w.cell? ⟨(ad.add (k * 4)).block, (ad.add (k * 4)).off + 2, none⟩ = some (.int .i64 p.2.2.1) ∧ w.cell? ⟨(ad.add (k * 4)).block, (ad.add (k * 4)).off + 3, none⟩ = some (.string p.2.2.2.1) := by
  have hlt : k < l.length := (List.getElem?_eq_some_iff.1 hk).1
  obtain ⟨ad, hA, hb, hc⟩ := h.2 (by omega)
  have hg : ∀ i u, (pV p)[i]? = some u → i < 4 → w.cell? (ad.add (k * 4 + i)) = some u := fun i u hu hi => hc _ _ ((flat4_at pV pV_len l k i p hk hi).trans hu)
  have g0 := hg 0 _ rfl (by omega)
  have g1 := hg 1 _ rfl (by omega)
  have g2 := hg 2 _ rfl (by omega)
  have g3 := hg 3 _ rfl (by omega)
  rw [Nat.add_zero] at g0
  rw [add_more _ _ _ (by omega)] at g1 g2 g3
  exact ⟨ad, hA, hb, g0, g1, g2, g3⟩
/-- Pieces that aren't many, nor great. -/
def LightP (l : List Pce) : Prop := l.length ≤ 12 ∧ ∀ p ∈ l, p.2.2.1 ≤ 100 ∧ p.2.2.2.1.size ≤ 300
instance (l : List Pce) : Decidable (LightP l) := by unfold LightP; exact inferInstance
def LtRel (l : List Pce) (w0 : World) (i : Value) (wr : World) : Prop := ∃ k : Nat, k ≤ l.length ∧ i = .int .i64 k ∧ (∀ p ∈ l.take k, p.2.2.1 ≤ 100 ∧ p.2.2.2.1.size ≤ 300) ∧ Below w0.heap.size w0 wr
def mdL (l : List Pce) : List Pr := match madeF [] l 0 with
  | .inl M => M
  | .inr _ => []
def mdAt (l : List Pce) : Int := match madeF [] l 0 with
  | .inl _ => -1
  | .inr k => (k : Int)
def MdPost (l : List Pce) (w0 : World) (e : Ending) (w' : World) : Prop := ∃ A c, e = .returned (.tuple #[.slice A (mdL l).length c, .int .i64 (mdAt l)]) ∧ (mdL l).length ≤ c ∧ PrsL w' w'.heap.size A (mdL l) ∧ Below w0.heap.size w0 w'
def MdRel (l : List Pce) (w0 : World) (v i : Value) (wr : World) : Prop := ∃ (k : Nat) (A : Option Addr) (c : Nat) (L : List Pr), k ≤ l.length ∧ i = .int .i64 k ∧ v = .slice A L.length c ∧ L.length ≤ c ∧ madeF [] l 0 = madeF L (l.drop k) k ∧ L.length ≤ 300 * k ∧ PrsL wr wr.heap.size A L ∧ Below w0.heap.size w0 wr
theorem row_300 {p : Pce} {r : Rw} (hp : PceOk p) (hl : p.2.2.1 ≤ 100 ∧ p.2.2.2.1.size ≤ 300) (h : rowOf p = some r) : r.2.1 ≤ 300 := by
  unfold rowOf at h
  split at h
  · obtain ⟨hg, _⟩ := hp
    generalize p.2.2.2.2 = q at *
    cases q with
    | none => cases h
    | some ps =>
      simp only at h hg
      have := hg.len
      split at h
      · injection h with h; subst h; simp only; omega
      · cases h
  · split at h
    · injection h with h; subst h; simp only; omega
    · cases h
theorem fold_len : ∀ (more l : List Pr), (more.foldl putL l).length = l.length + more.length
  | [], l => by simp
  | x :: more, l => by rw [List.foldl_cons, fold_len more, putL_len, List.length_cons]; omega
theorem join_len {l more L : List Pr} (h : joinL l more = some L) : L.length = l.length + more.length := by
  unfold joinL at h
  split at h
  · cases h
  · injection h with h; subst h; exact fold_len more l
end Go.Proofs.YtpnjandlpbjddabDoor

/- What New makes, as a table with the document's pairs; contracts of the law's table, Is. -/
set_option maxRecDepth 100000
set_option maxHeartbeats 4000000
namespace Go.Proofs.YtpnjandlpbjddabDoor
open Go Go.RowKit

theorem newF_len : ∀ (l : List Pce) (acc rs : List Rw) (i : Nat), newF acc l i = .inl rs → rs.length ≤ acc.length + l.length
  | [], acc, rs, i, h => by
    unfold newF at h
    injection h with h; subst h; simp
  | p :: l, acc, rs, i, h => by
    unfold newF at h
    split at h
    · cases h
    · split at h
      · cases h
      · have := newF_len l _ _ _ h
        simp at this ⊢
        omega
theorem TbR.nil (w : World) (B : Nat) : TbR w B none [] := ⟨⟨Reads.none_, fun ad h => by cases h⟩, fun x hx => by simp at hx, by simp [RowsOk]⟩
def ftE (l : List Pce) : Int := match madeF [] l 0 with
  | .inl _ => 0
  | .inr _ => 5
def ftA (l : List Pce) : Int := match madeF [] l 0 with
  | .inl _ => 0
  | .inr k => (k : Int)
def NtPost (l : List Pce) (w0 : World) (e : Ending) (w' : World) : Prop := ∃ A c rs, e = .returned (.tuple #[.agg #[.slice A rs.length c], .agg #[.int .i64 (ftE l), .int .i64 (ftA l)]]) ∧ rs.length ≤ c ∧ rs.length ≤ 4096 ∧ TbR w' w'.heap.size A rs ∧ prsT rs = mdL l ∧ Below w0.heap.size w0 w'
theorem New_tb (l : List Pce) (A : Option Addr) (c : Nat) (hl : l.length ≤ 4096) (hok : ∀ p ∈ l, PceOk p ∧ p.2.2.2.1.size ≤ 1000000) (w : World) (hT : Tabs w) (hA : PcsL w w.heap.size A l) :
    Calls Tryd.prog 25 #[.slice A l.length c] w (NtPost l w) := by
  refine (New_any l A c hl hok w hT hA).mono ?_
  rintro e w' ⟨h, hb⟩
  unfold NtPost ftE ftA mdL
  rcases new_made l [] [] 0 (fun p hp => (hok p hp).1) told_nil with ⟨rs', M, h1, h2, h3⟩ | ⟨k, h1, h2⟩
  · rw [h2]
    rcases h with ⟨A2, c2, rs, ⟨rs0, h4, h5, h6⟩, h7, h8, h9, rfl⟩ | ⟨k, h4, _⟩
    · rw [h4] at h1; injection h1 with h1
      obtain ⟨hro, hpr⟩ := told_sorted (rs' := rs.map (·.1)) h3 (by rw [← h1]; exact h5.map _) (by rw [List.pairwise_map]; exact h6)
      have hlen := newF_len l _ _ _ h4
      rw [List.length_map] at hlen
      simp only [List.length_nil, Nat.zero_add] at hlen
      exact ⟨A2, c2, rs, rfl, h7, by have := h5.length_eq; omega, ⟨h8, fun x hx => h9 x hx, hro⟩, hpr, hb⟩
    · rw [h4] at h1; cases h1
  · rw [h2]
    rcases h with ⟨A2, c2, rs, ⟨rs0, h4, h5, h6⟩, h7, h8, h9, rfl⟩ | ⟨k2, h4, rfl⟩
    · rw [h4] at h1; cases h1
    · rw [h4] at h1; injection h1 with h1; subst h1
      exact ⟨none, 0, [], rfl, Nat.le_refl _, by simp, TbR.nil _ _, rfl, hb⟩
theorem TbR.set1 {w : World} {B g : Nat} {A A0 : Option Addr} {n0 c0 : Nat} {rs : List (Rw × Sl)} {T : TypeId} (h : TbR w B A rs) (hg : w.heap[g]? = some (.cells #[.slice A0 n0 c0] T (0, 0))) (hT : T ≠ 21) (v : Value) : TbR (w.setCell ⟨g, 0, none⟩ v) B A rs := by
  refine ⟨⟨⟨h.1.1.1, fun h0 => ?_⟩, h.1.2⟩, fun x hx => ⟨(h.2.1 x hx).1, sg_set1 (h.2.1 x hx).2 v hg hT⟩, h.2.2⟩
  obtain ⟨x, hx⟩ : ∃ x, rs[0]? = some x := ⟨_, List.getElem?_eq_getElem h0⟩
  obtain ⟨ad', hA', _, hc', _⟩ := h.row hx
  obtain ⟨ad, hA, hb, hc⟩ := h.1.1.2 h0
  rw [hA] at hA'; injection hA' with hA'; subst hA'
  have hsp := h.1.2 ad hA
  refine ⟨ad, hA, hb, fun j u hu => ?_⟩
  have hbk : ad.block ≠ g := by
    rintro rfl
    rw [sg_cell hsp hg] at hc'
    rcases hi : ad.off + 0 * 4 with _ | i
    · rw [hi] at hc'; simp at hc'
    · rw [hi] at hc'; simp at hc'
  rw [cell_set (by rw [block_of_add]; exact hbk)]
  exact hc j u hu
/-- A table with these pairs, as a value. -/
def TbPost (L : List Pr) (w0 : World) (e : Ending) (w' : World) : Prop := ∃ A c rs, e = .returned (.agg #[.slice A rs.length c]) ∧ rs.length ≤ c ∧ rs.length ≤ 4096 ∧ TbR w' w'.heap.size A rs ∧ prsT rs = L ∧ Below w0.heap.size w0 w'
/-- Has the table just these pairs. -/
def IsRel (L : List Pr) (base : Nat) (w0 : World) (i : Value) (wr : World) : Prop := ∃ k : Nat, k ≤ L.length ∧ i = .int .i64 k ∧ Below base w0 wr ∧ base ≤ wr.heap.size
end Go.Proofs.YtpnjandlpbjddabDoor
