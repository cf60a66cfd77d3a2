/- Contract of big5.Pairs; no condition. -/
import Derived.Test.YtnalckiibcbgoaaB10
set_option maxRecDepth 100000
set_option maxHeartbeats 4000000
namespace Go.Proofs.Ytnalckiibcbgoaa
open Go Go.RowKit

def pv (l : List (Int × Int)) : List Value := l.flatMap fun t => [.int .i64 t.1, .int .i32 t.2]
theorem pv_append (a b : List (Int × Int)) : pv (a ++ b) = pv a ++ pv b := by simp [pv]
theorem pv_len (l : List (Int × Int)) : (pv l).length = l.length * 2 := by
  induction l with
  | nil => rfl
  | cons t l ih => rw [show t :: l = [t] ++ l from rfl, pv_append, List.length_append, ih]; simp [pv]; omega
theorem codes_len (L c : Int) (ps : List Int) : (codesFrom L c ps).length = ps.length := by
  induction ps generalizing c with
  | nil => rfl
  | cons p ps ih => simp [codesFrom, ih]
theorem codes_take (L c : Int) (ps : List Int) (j : Nat) (hj : j < ps.length) : (codesFrom L c ps).take (j + 1) = (codesFrom L c ps).take j ++ [(L * 256 + secondZ (c + j), ps.getD j 0)] := by
  induction ps generalizing c j with
  | nil => simp at hj
  | cons p ps ih =>
    cases j with
    | zero => simp [codesFrom]
    | succ j =>
      have := ih (c + 1) j (by simpa using hj)
      simp only [codesFrom, List.take_succ_cons, this, List.cons_append, List.getD_cons_succ]
      have e : c + 1 + (j : Int) = c + ((j + 1 : Nat) : Int) := by omega
      rw [e]
theorem flat_take {k : Nat} (h : k < 11) : flatL (SP.take (k + 1)) = flatL (SP.take k) ++ codesFrom (leadN k) (cellZ (secN k)) (listN k) := by
  have hf : ∀ (a b : List (Int × Int × List Int)), flatL (a ++ b) = flatL a ++ flatL b := by
    intro a b
    induction a with
    | nil => rfl
    | cons t a ih => simp [flatL, ih]
  have hl : k < SP.length := by simpa [SP] using h
  rw [List.take_succ_eq_append_getElem hl, hf]
  simp only [flatL, leadN, secN, listN, List.getD_eq_getElem?_getD, List.getElem?_eq_getElem hl, Option.getD_some, List.append_nil]
theorem pair_info : (Try.prog.info? 41).map (fun i => (i.zero, i.size, i.bytes)) = some (some (.agg #[.int .i64 0, .int .i32 0]), 2, 16) := by kernel_rfl
theorem own_ne {w : World} {base : Nat} {e t : TypeId} {size : Nat} {v : Value} {n : Nat} {xs : List Value} (h : w.ownsRow base e size v n xs) {K : Nat} {cs : Array Value} (hk : w.heap[K]? = some (.cells cs t (0, 0))) (hne : e ≠ t) : some K ≠ v.ownBlock := by
  rcases h.2 with ⟨rfl, _⟩ | ⟨g, cap, cur, rfl, hb, hg, rest⟩
  · simp [Value.ownBlock]
  · simp only [Value.ownBlock, ne_eq, Option.some.injEq]
    rintro rfl
    rw [hg] at hk
    injection hk with hk
    injection hk with _ h2 _
    exact hne h2
theorem heap_below {w w' : World} {K : Nat} {o : Obj} (h : w.heap[K]? = some o) (hb : Below w.heap.size w w') : w'.heap[K]? = some o := by
  rw [hb.block K (Array.getElem?_eq_some_iff.1 h).1, h]
theorem heap_grown {w w' : World} {K : Nat} {o : Obj} {row : Option Nat} (h : w.heap[K]? = some o) (hg : w.grownBy w' row) (hne : some K ≠ row) : w'.heap[K]? = some o := by
  rw [hg.block K (Array.getElem?_eq_some_iff.1 h).1 hne, h]
theorem two_new (w : World) (x y : Value) (t : TypeId) : ∀ j u, [x, y][j]? = some u → (w.alloc (.cells #[x, y] t)).cell? ((⟨w.heap.size, 0, none⟩ : Addr).add j) = some u := by
  intro j u hu
  have hadd : (⟨w.heap.size, 0, none⟩ : Addr).add j = ⟨w.heap.size, j, none⟩ := by unfold Addr.add; split <;> simp_all
  rw [hadd, cell_of_row _ w.heap.size j _ t (0, 0) (heap_alloc_new w _)]
  simpa using hu

def OutRel (w0 : World) (v i : Value) (wr : World) : Prop := ∃ k : Nat, k ≤ 11 ∧ i = .int .i64 k ∧ wr.ownsRow w0.heap.size 41 2 v (flatL (SP.take k)).length (pv (flatL (SP.take k))) ∧ Below w0.heap.size w0 wr
def InRel (F cs : List (Int × Int)) (m bx : Nat) (o : Obj) (w0 : World) (v i : Value) (wr : World) : Prop := ∃ j : Nat, j ≤ m ∧ i = .int .i64 j ∧ wr.ownsRow w0.heap.size 41 2 v (F.length + j) (pv (F ++ cs.take j)) ∧ wr.heap[bx]? = some o ∧ Below w0.heap.size w0 wr
theorem flat_all : flatL (SP.take 11) = flatL SP := rfl
theorem flat_len : (flatL SP).length = 610 := by decide +kernel
theorem flat_le (k : Nat) (h : k ≤ 11) : (flatL (SP.take k)).length ≤ 610 := by
  have : ∀ k, k ≤ 11 → (flatL (SP.take k)).length ≤ 610 := by decide +kernel
  exact this k h

theorem Pairs_any (w : World) : Calls Try.prog 13 #[] w fun e w' => ∃ v, e = .returned v ∧ w'.ownsRow w.heap.size 41 2 v 610 (pv (flatL SP)) ∧ Below w.heap.size w w' := by
  obtain ⟨i0, hi, iz0, iz1, iz2⟩ := info_parts pair_info
  go_enter Try.func13, Try.ntmps13
  go_wp2_with (first | (go_at_call 23; refine (Spans_abs _).mono ?_; rintro e w1 ⟨V, rfl, hV, hb1⟩))
  go_loopw [1, 8] (fun v i wr => OutRel w v i wr) (fun _ i _ => 11 - (intOf i).toNat)
  case atStart => exact ⟨0, by omega, rfl, World.ownsRow_nil _ _ _ _, hb1⟩
  case round =>
    obtain ⟨k, hk, rfl, hown, hbr⟩ := hrel
    by_cases hk11 : k < 11
    · have Hnext := Lib.hid (flat_take hk11)
      have hFle := flat_le (k + 1) (by omega)
      rw [Hnext.out, List.length_append, codes_len] at hFle
      obtain ⟨hx, hsz⟩ := hex11 hk11
      obtain ⟨l1, l2, l3, l4, l5, l6, l7⟩ := len11 k hk11
      have hi11 := hV k hk11
      have hcell := fun w => Cell_b (secN k) ⟨by omega, by omega⟩ w
      have hxs := hx.size
      have hat := fun (j : Nat) hj w => At_in (sB k) (listN k) hx j hj hsz w
      generalize flatL (SP.take k) = F at *
      generalize leadN k = L at *
      generalize secN k = S at *
      generalize listN k = ps at *
      generalize sB k = s at *
      generalize cellZ S = d at *
      clear hx
      have hdiv : (s.size : Int) / 5 = ps.length := by omega
      have hbA := hbr.alloc hbr.size (.cells #[.int .i64 L, .int .i64 S, .string s] 56)
      have hownA := hown.alloc (.cells #[.int .i64 L, .int .i64 S, .string s] 56)
      have hbox := heap_alloc_new wr (.cells #[.int .i64 L, .int .i64 S, .string s] 56)
      clear hbr hown
      have hkd : decide ((k : Int) < 11) = true := decide_eq_true (by omega)
      go_wp2_with fail
      generalize hbx0 : wr.heap.size = bx at *
      clear hbx0
      go_loopw [1, 15] (fun v i w2 => InRel F (codesFrom L d ps) ps.length bx (.cells #[.int .i64 L, .int .i64 S, .string s] 56) w v i w2) (fun _ i _ => ps.length - (intOf i).toNat)
      case atStart => exact ⟨0, by omega, rfl, by simpa using hownA, hbox, hbA⟩
      case round =>
        obtain ⟨j, hj, rfl, hown, hbx, hbr⟩ := hrel
        clear hownA hbox hbA
        by_cases hjl : j < ps.length
        · have Hcs := Lib.hid (codes_take L d ps j hjl)
          have hc0 := cell_of_row _ bx 0 _ _ _ hbx
          have hc1 := cell_of_row _ bx 1 _ _ _ hbx
          have hc2 := cell_of_row _ bx 2 _ _ _ hbx
          simp at hc0 hc1 hc2
          have hat1 := fun w => hat j hjl w
          obtain ⟨sd0, sd1⟩ := secondZ_bd (c := d + j) (by omega) (by omega)
          have hsec := fun w => Second_b (d + j) ⟨by omega, by omega⟩ w
          have hor : bits .or .i64 (L * 256) (secondZ (d + j)) = L * 256 + secondZ (d + j) := i64_or8 (by omega) (by omega) (by omega) (by omega)
          generalize codesFrom L d ps = cs at *
          generalize ps.getD j 0 = p at *
          clear hat
          go_wp2_with (first | (go_at_call 29; refine (hat1 _).mono ?_; rintro e w1 ⟨rfl, hb1⟩))
          have own1 := own_below hown hb1
          have b1 := heap_below hbx hb1
          have e0 := bcell_keep hc0 hb1
          have e1 := bcell_keep hc1 hb1
          have hB1 := hbr.trans (hb1.mono hbr.size)
          have hne1 := own_ne own1 b1 (by decide)
          generalize secondZ (d + j) = sz at *
          clear hat1 hb1 hown hbx hc0 hc1 hc2 hbr
          refine wp_region_lin (fun w' => w'.cell? ⟨bx, 0, none⟩ = some (.int .i64 L) ∧ w'.cell? ⟨bx, 1, none⟩ = some (.int .i64 S)) [(0, true), (1, true), (2, true), (3, true), (4, true), (5, true), (7, true), (11, true), (6, false), (8, true), (9, false), (10, true), (12, true), (13, false), (14, false), (15, true)] (by kernel_rfl) (by kernel_rfl) (by kernel_rfl) (Nat.le_of_ble_eq_true rfl) (fun _ _ d _ _ h => by cases d <;> exact h) ⟨e0, e1⟩ ?_
          iterate 3 (refine' lin_pure rfl (by rfl) _ (fun w hSw => _) _; rotate_left; (obtain ⟨hs0, hs1⟩ := hSw; go_simp; try with_reducible rfl); try simp only [Act.put, List.setIfInBounds_toArray, List.set_cons_zero, List.set_cons_succ])
          refine lin_pure rfl (by rfl) (.int .i64 (L * 256)) (fun w hSw => by obtain ⟨hs0, hs1⟩ := hSw; go_simp; try rw [IntWalk.i64_in _ (by omega)]) ?_
          simp only [Act.put, List.setIfInBounds_toArray, List.set_cons_zero, List.set_cons_succ]
          iterate 4 (refine' lin_pure rfl (by rfl) _ (fun w hSw => _) _; rotate_left; (obtain ⟨hs0, hs1⟩ := hSw; go_simp; try with_reducible rfl); try simp only [Act.put, List.setIfInBounds_toArray, List.set_cons_zero, List.set_cons_succ])
          refine lin_eff rfl (by rfl) (fun K hK => ?_)
          go_simp
          refine (hcell _).mono ?_
          rintro e w3 ⟨rfl, hb3⟩
          have hb3' : Below w1.heap.size w1 w3 := (Below.refl w1.heap.size w1).drew.trans (hb3.mono (Nat.le_refl _))
          have own3 := own_below own1 hb3'
          have b3 := heap_below b1 hb3'
          have f0 := bcell_keep e0 hb3'
          have f1 := bcell_keep e1 hb3'
          have hB3 := hB1.trans (hb3'.mono hB1.size)
          go_wp2_with fail
          refine hK.out _ _ ⟨f0, f1⟩ ?_
          clear hK K
          try simp only [Act.put, List.setIfInBounds_toArray, List.set_cons_zero, List.set_cons_succ]
          refine lin_pure rfl (by rfl) (.int .i64 (d + (j : Int))) (fun w hSw => by go_simp; try rw [IntWalk.i64_in _ (by omega)]) ?_
          simp only [Act.put, List.setIfInBounds_toArray, List.set_cons_zero, List.set_cons_succ]
          refine lin_eff rfl (by rfl) (fun K hK => ?_)
          go_simp
          refine (hsec _).mono ?_
          rintro e w4 ⟨rfl, hb4⟩
          have own4 := own_below own3 hb4
          have b4 := heap_below b3 hb4
          have g0 := bcell_keep f0 hb4
          have g1 := bcell_keep f1 hb4
          have hB4 := hB3.trans (hb4.mono hB3.size)
          go_wp2_with fail
          refine hK.out _ _ ⟨g0, g1⟩ ?_
          clear hK K
          try simp only [Act.put, List.setIfInBounds_toArray, List.set_cons_zero, List.set_cons_succ]
          refine lin_pure rfl (by rfl) (.int .i64 (L * 256 + sz)) (fun w hSw => by go_simp; try rw [hor]) ?_
          simp only [Act.put, List.setIfInBounds_toArray, List.set_cons_zero, List.set_cons_succ]
          refine lin_pure rfl (by rfl) (.agg #[.int .i64 (L * 256 + sz), .int .i32 p]) (fun w hSw => by go_simp) ?_
          simp only [Act.put, List.setIfInBounds_toArray, List.set_cons_zero, List.set_cons_succ]
          refine lin_eff rfl (by rfl) (fun K hK => ?_)
          go_simp
          go_wp2_with fail
          have g0' := bcell_keep g0 ((Below.refl w4.heap.size w4).alloc (Nat.le_refl _) (.cells #[.int .i64 (L * 256 + sz), .int .i32 p] 41))
          have g1' := bcell_keep g1 ((Below.refl w4.heap.size w4).alloc (Nat.le_refl _) (.cells #[.int .i64 (L * 256 + sz), .int .i32 p] 41))
          refine hK.out _ _ ⟨g0', g1'⟩ ?_
          clear hK K
          try simp only [Act.put, List.setIfInBounds_toArray, List.set_cons_zero, List.set_cons_succ]
          have own5 := own4.alloc (.cells #[.int .i64 (L * 256 + sz), .int .i32 p] 41)
          have b5 := heap_below b4 ((Below.refl w4.heap.size w4).alloc (Nat.le_refl _) (.cells #[.int .i64 (L * 256 + sz), .int .i32 p] 41))
          have hB5 := hB4.alloc hB4.size (.cells #[.int .i64 (L * 256 + sz), .int .i32 p] 41)
          have hz5 := hB5.size
          have hne5 := own_ne own5 b5 (by decide)
          refine lin_eff rfl (by rfl) (fun K hK => ?_)
          refine wp_append_own _ _ _ 37 rfl w.heap.size 41 i0 (.agg #[.int .i64 0, .int .i32 0]) 2 16 Try.underlying37 hi iz0 iz1 iz2 rfl (by decide) u1 (F.length + j) _ rfl own5 ⟨w4.heap.size, 0, none⟩ 1 1 [.int .i64 (L * 256 + sz), .int .i32 p] rfl rfl (two_new w4 _ _ _) (by intro u hu; simp at hu; rcases hu with rfl | rfl <;> rfl) (by unfold maxLen; omega) (by omega) hz5 ?_
          intro v' w6 own6 hg6 _
          have hB6 := below_grownOwn hB5 own5 hg6 hz5 (Nat.le_refl _)
          have b6 := heap_grown b5 hg6 hne5
          have k0 := cell_of_row _ bx 0 _ _ _ b6
          have k1 := cell_of_row _ bx 1 _ _ _ b6
          simp at k0 k1
          refine hK.out _ _ ⟨k0, k1⟩ ?_
          clear hK K
          try simp only [Act.put, List.setIfInBounds_toArray, List.set_cons_zero, List.set_cons_succ]
          refine lin_pure rfl (by rfl) v' (fun w hSw => by go_simp) ?_
          try simp only [Act.put, List.setIfInBounds_toArray, List.set_cons_zero, List.set_cons_succ]
          refine lin_nil ?_
          have own7 : w6.ownsRow w.heap.size 41 2 v' (F.length + (j + 1)) (pv (F ++ cs.take (j + 1))) := by
            rw [Hcs.out, ← List.append_assoc, pv_append]
            exact own6
          go_wp2_with fail
          go_roundw
          case rel => exact ⟨j + 1, by omega, by go_num, own7, b6, hB6⟩
          case measure => simp [intOf]; omega
        · have hj2 : j = ps.length := by omega
          subst hj2
          have hlen : (codesFrom L d ps).length = ps.length := codes_len L d ps
          have hown8 : wr.ownsRow w.heap.size 41 2 u1 (flatL (SP.take (k + 1))).length (pv (flatL (SP.take (k + 1)))) := by
            rw [Hnext.out, List.length_append, hlen]
            rw [← hlen, List.take_length, hlen] at hown
            exact hown
          clear hown hlen
          go_wp2_with fail
          go_roundw
          case rel => exact ⟨k + 1, by omega, by go_num, hown8, hbr⟩
          case measure => simp [intOf]; omega
    · have hk2 : k = 11 := by omega
      subst hk2
      rw [flat_all, flat_len] at hown
      clear hk11
      go_wp2_with fail
      go_ret
      exact ⟨_, rfl, hown, hbr⟩
end Go.Proofs.Ytnalckiibcbgoaa
