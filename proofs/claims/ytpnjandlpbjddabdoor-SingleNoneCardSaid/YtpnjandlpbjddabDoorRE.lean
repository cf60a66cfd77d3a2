/- Contract of a row's code: the least code of a sign; no condition but that the row is one. -/
import Derived.Test.YtpnjandlpbjddabDoorRD
import Derived.Test.YtpnjandlpbjddabDoorRShelf
import Derived.Test.YtpnjandlpbjddabDoorLin
set_option maxRecDepth 100000
set_option maxHeartbeats 4000000
namespace Go.Proofs.YtpnjandlpbjddabDoor
open Go Go.RowKit

/-- The least code of a sign. -/
def lst (r : Rw) (p : Int) : Option Nat := ((prs r).find? fun x => x.2 == p).map (·.1)
theorem lst_eq (r : Rw) (p : Int) : lst r p = ((List.range r.2.1).find? fun i => sgAt r i == p).map (r.1 + ·) := by
  unfold lst prs
  rw [List.find?_map, Option.map_map]
  rfl
theorem lst_cases (r : Rw) (p : Int) : (∃ k, k < r.2.1 ∧ sgAt r k = p ∧ (∀ j, j < k → sgAt r j ≠ p) ∧ lst r p = some (r.1 + k)) ∨ ((∀ j, j < r.2.1 → sgAt r j ≠ p) ∧ lst r p = none) := by
  rw [lst_eq]
  cases h : (List.range r.2.1).find? fun i => sgAt r i == p with
  | none =>
    rw [List.find?_range_eq_none] at h
    exact .inr ⟨fun j hj => by have := h j hj; simpa using this, rfl⟩
  | some k =>
    rw [List.find?_range_eq_some] at h
    obtain ⟨h1, h2, h3⟩ := h
    exact .inl ⟨k, List.mem_range.1 h2, by simpa using h1, fun j hj => by have := h3 j hj; simpa using this, rfl⟩
def CdPost (r : Rw) (p : Int) (w0 : World) (e : Ending) (w' : World) : Prop := ∃ z, e = .returned (.tuple #[.int .i64 z, .bool (lst r p).isSome]) ∧ (∀ c, lst r p = some c → z = c) ∧ Below w0.heap.size w0 w'
theorem Code_any (x : Rw × Sl) (p : Int) (hp : -2147483648 ≤ p ∧ p < 2147483648) (hx : RwOk x.1) (w : World) (hs : SgOk w w.heap.size x) :
    Calls Tryd.prog 92 #[.agg (rV x).toArray, .int .i32 p] w (CdPost x.1 p w) := by
  have hnn := fun (w : World) (a : Option Addr) (n c : Nat) => run_neq_slice_nil_any (P := Tryd.prog) w 71 _ a n c 0 0 Tryd.underlying71
  obtain ⟨⟨f, n, t, q⟩, v⟩ := x
  obtain ⟨g1, g2, g3⟩ := hx
  simp only at g1 g2 g3
  cases q with
  | none =>
    obtain rfl : v = (none, 0, 0) := hs
    simp only at g3
    have hlc := lst_cases (f, n, t, none) p
    simp only [sgAt] at hlc
    unfold CdPost rV slV
    simp only
    have e1 : ∀ z : Int, -2147483648 ≤ z ∧ z ≤ 2147483647 → IntKind.i64.wrap z = z := fun z h => IntWalk.i64_in _ (by omega)
    by_cases hpt : t ≤ p
    · have e2 : IntKind.i32.wrap (p - t) = p - t := IntWalk.i32_in _ (by omega)
      have e3 : IntKind.i64.wrap (p - t) = p - t := e1 _ (by omega)
      have e4 : IntKind.i64.wrap ((f : Int) + (p - t)) = (f : Int) + (p - t) := IntWalk.i64_in _ (by omega)
      have hr : (lst (f, n, t, none) p).isSome = decide (p - t < n) ∧ ∀ c, lst (f, n, t, none) p = some c → (f : Int) + (p - t) = c := by
        rcases hlc with ⟨k, h1, h2, _, h4⟩ | ⟨h1, h2⟩
        · rw [h4]
          exact ⟨by rw [decide_eq_true (by omega)]; rfl, fun c h => by injection h with h; omega⟩
        · rw [h2]
          refine ⟨?_, fun c h => by cases h⟩
          have : ¬ p - t < n := fun h => h1 (p - t).toNat (by omega) (by omega)
          rw [decide_eq_false this]; rfl
      obtain ⟨hr1, hr2⟩ := hr
      have Hr2 := Lib.hid hr2
      rw [hr1]
      clear hlc hr1 hr2
      go_enter Tryd.func92, Tryd.ntmps92
      go_wp2_with fail
      go_quiet (fail)
      go_wp2_with fail
      go_ret2
      exact ⟨_, rfl, Hr2.out, below_drewN ((Below.refl _ w).alloc (Nat.le_refl _) _) _⟩
    · have hr : lst (f, n, t, none) p = none := by
        rcases hlc with ⟨k, h1, h2, _, h4⟩ | ⟨h1, h2⟩
        · omega
        · exact h2
      have Hr := Lib.hid hr
      rw [hr]
      clear hlc hr
      go_enter Tryd.func92, Tryd.ntmps92
      go_wp2_with fail
      have hd : decide (t ≤ p) = false := decide_eq_false (by omega)
      have hB0 : ∀ o, Below w.heap.size w (w.alloc o).drew := fun o => ((Below.refl _ w).alloc (Nat.le_refl _) _).drew
      refine wp_region_lin (fun w' => w'.cell? ⟨w.heap.size, 0, none⟩ = some (.int .i64 (f : Int)) ∧ w'.cell? ⟨w.heap.size, 2, none⟩ = some (.int .i32 t)) [(0, true), (1, true), (2, true), (3, true), (4, true), (5, true), (6, true), (7, true), (8, true), (9, true), (10, true), (11, true), (12, true), (13, true), (14, true), (15, true), (16, true), (17, true), (18, true), (19, true), (20, true), (21, true), (22, true), (23, true)] (by kernel_rfl) (by kernel_rfl) (by kernel_rfl) (Nat.le_of_ble_eq_true rfl) (fun _ _ d _ _ h => by cases d <;> exact h) (by constructor <;> (show (w.alloc _).cell? _ = _; rw [cell_of_row _ w.heap.size _ _ 73 (0, 0) (heap_alloc_new w _)]; rfl)) ?_
      repeat (first
        | (refine lin_skip rfl (by rfl) ?_; try simp only [Act.put, List.setIfInBounds_toArray, List.set_cons_zero, List.set_cons_succ]; try rw [hd])
        | (refine' lin_pure rfl (by rfl) _ (fun W hSw => _) _; rotate_left; (obtain ⟨sw0, sw2⟩ := hSw; go_simp; try with_reducible rfl); try simp only [Act.put, List.setIfInBounds_toArray, List.set_cons_zero, List.set_cons_succ]; try rw [hd]))
      refine lin_nil ?_
      go_wp2_with fail
      go_ret2
      exact ⟨_, rfl, (fun c h => by cases h), hB0 _⟩
  | some l =>
    obtain ⟨ad, cp, cs, fr, hv, hcp, hbk, hsp, hh, hcs⟩ := hs
    have hcell : ∀ j, j < l.length → w.cell? (ad.add j) = some (.int .i32 (l.getD j 0)) := fun j hj => (sg_cell hsp hh j).trans (hcs j hj)
    clear hcs hh
    simp only at hv hcp hcell g3
    obtain ⟨rfl, g4, _⟩ := g3
    subst hv
    subst g4
    obtain ⟨bk, off, sp⟩ := ad
    simp only at hsp hbk
    subst hsp
    have hadd : ∀ j, (⟨bk, off, none⟩ : Addr).add j = ⟨bk, off + j, none⟩ := fun j => by unfold Addr.add; split <;> simp_all
    have hget : ∀ j, j < l.length → l[j]! = l.getD j 0 := fun j hj => by rw [getElem!_pos l j hj, List.getD, List.getElem?_eq_getElem hj]; rfl
    have hlc := lst_cases (f, l.length, 0, some l) p
    simp only [sgAt] at hlc
    have hix : ∀ (o : Obj), Calls Tryd.prog 110 #[.slice (some ⟨bk, off, none⟩) l.length cp, .int .i32 p] (w.alloc o) fun e w' => e = .returned (.int .i64 (Lib.idxBy (fun x y : Int => x == y) (l.take l.length) p)) ∧ (w.alloc o) = w' := fun o => by
      have := AnyE.slices_Index Tryd.laysIdx (Value.int .i32) (fun x y => x == y) (EqlAt.int _ _ .i32) bk off l.length cp l p (w.alloc o) (Nat.le_refl _) (by omega) (fun j hj => by
        rw [World.cell?_alloc_lt _ _ _ hbk, hget j hj, ← hadd]; exact hcell j hj)
      change Calls Tryd.prog 110 _ _ _ at this
      exact this.mono fun e w' h => ⟨h.1, h.2.symm⟩
    unfold CdPost rV slV
    simp only
    have hr : ∃ z : Int, Lib.idxBy (fun x y : Int => x == y) (l.take l.length) p = z ∧ -1 ≤ z ∧ z < 1048576 ∧ (lst (f, l.length, 0, some l) p).isSome = decide (0 ≤ z) ∧ ∀ c, lst (f, l.length, 0, some l) p = some c → (f : Int) + z = c := by
      rcases hlc with ⟨k, h1, h2, h3, h4⟩ | ⟨h1, h2⟩
      · refine ⟨k, Lib.idxBy_hit _ l l.length k p (by omega) (Nat.le_refl _) ?_ ?_, by omega, by omega, ?_, ?_⟩
        · rw [hget k (by omega), h2]; simp
        · intro j hj
          rw [hget j (by omega)]
          have := h3 j hj
          exact beq_eq_false_iff_ne.2 (fun e => this e.symm)
        · rw [h4, decide_eq_true (by omega)]; rfl
        · intro c hc
          rw [h4] at hc
          injection hc with hc
          omega
      · refine ⟨-1, Lib.idxBy_miss _ l l.length p (fun j hj => ?_), by omega, by omega, ?_, ?_⟩
        · rw [hget j hj]
          have := h1 j (by omega)
          exact beq_eq_false_iff_ne.2 (fun e => this e.symm)
        · rw [h2]; rfl
        · intro c hc
          rw [h2] at hc; cases hc
    obtain ⟨z, hz, hz1, hz2, hz3, hz4⟩ := hr
    rw [hz] at hix
    have Hz4 := Lib.hid hz4
    have e1 : IntKind.i64.wrap ((f : Int) + z) = (f : Int) + z := IntWalk.i64_in _ (by omega)
    rw [hz3]
    clear hlc hz hz3 hz4 hcell hget hadd
    go_enter Tryd.func92, Tryd.ntmps92
    go_wp2_with (go_at_call 110; refine (hix _).mono ?_; rintro e w1 ⟨rfl, rfl⟩)
    go_ret2
    exact ⟨_, rfl, Hz4.out, (Below.refl _ w).alloc (Nat.le_refl _) _⟩
end Go.Proofs.YtpnjandlpbjddabDoor
