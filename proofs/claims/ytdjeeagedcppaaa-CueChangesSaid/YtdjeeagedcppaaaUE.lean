/- Contract of cue.valued; condition: at most 100,000 bytes. -/
import Derived.Test.YtdjeeagedcppaaaUD
set_option maxRecDepth 100000
set_option maxHeartbeats 4000000
namespace Go.Proofs.Ytdjeeagedcppaaa
open Go Go.RowKit

theorem newA2 (w : World) (u v : Value) (T : TypeId) : (w.alloc (.cells #[u, v] T)).cell? ⟨w.heap.size, 0, none⟩ = some u ∧ (w.alloc (.cells #[u, v] T)).cell? ⟨w.heap.size, 1, none⟩ = some v := by
  rw [cell_of_row _ w.heap.size 0 _ T (0, 0) (heap_alloc_new w _), cell_of_row _ w.heap.size 1 _ T (0, 0) (heap_alloc_new w _)]; exact ⟨rfl, rfl⟩
theorem Mark_two (bk : Nat) (x y : ByteArray) (w : World) (h : w.cell? ⟨bk, 0, none⟩ = some (.string x) ∧ w.cell? ⟨bk, 1, none⟩ = some (.string y)) (hx : x.size + y.size ≤ 35184372089000) :
    Calls Try.prog 20 #[.slice (some ⟨bk, 0, none⟩) 2 2] w fun e w' => e = .returned (.agg #[.bool true, .string (B nMark), .string (B (x.data.toList ++ y.data.toList))]) ∧ Below w.heap.size w w' := by
  have hm := Mark_any bk 2 [x.data.toList, y.data.toList] w (by
    intro j z hz
    rcases j with _ | _ | j
    · simp at hz; subst hz; rw [← B_of]; exact h.1
    · simp at hz; subst hz; rw [← B_of]; exact h.2
    · simp at hz) (by simp) (by simp) (by simp; exact hx) (by simp)
  simp only [List.flatten_cons, List.flatten_nil, List.append_nil, List.length_cons, List.length_nil] at hm
  exact hm
theorem val_bound {y t : List UInt8} {n : Nat} (h : valL y = some (t, n)) : n ≤ 1 ∧ n ≤ y.length ∧ t.length ≤ y.length := by
  obtain ⟨q, hy, hn, hq⟩ := val_shape h
  have := congrArg List.length hy
  simp only [List.length_append] at this
  rcases hq with rfl | rfl <;> simp at hn this <;> omega
theorem Valued_any (s nm : ByteArray) (a b : Nat) (hab : a ≤ b) (hbs : b ≤ s.size) (hs : s.size ≤ 100000) (w : World) :
    Calls Try.prog 24 #[.string s, .string nm, .int .i64 a, .int .i64 b] w (RPost (vdL s.data.toList nm.data.toList a b) w) := by
  generalize hP : RPost (vdL s.data.toList nm.data.toList a b) w = P at *
  have hl0 := len_data s
  have hv := fun w => Value_any (s.extract a b) (by simp; omega) w
  unfold VPost vt vn at hv
  rw [ext_data] at hv
  have hr : RPost (vdL s.data.toList nm.data.toList a b) w = P := hP
  unfold vdL at hP
  cases hq : valL ((s.data.toList.take b).drop a) with
  | none =>
    have hv2 : ∀ w, Calls Try.prog 34 #[.string (s.extract a b)] w fun e w' => e = .returned (.tuple #[.string ⟨#[]⟩, .int .i64 0, .bool false]) ∧ w = w' := fun w => (hv w).mono fun e w' h => by
      rw [hq] at h; exact ⟨h.1, h.2.symm⟩
    rw [hq] at hP
    have hf : P (.returned (.tuple #[.slice none 0 0, .bool false])) w := by
      rw [← hP]; exact ⟨_, rfl, .inl ⟨rfl, rfl⟩, Below.refl _ _⟩
    have Hf := Lib.hid hf
    clear hv hP hr hf
    go_enter Try.func24, Try.ntmps24
    go_wp2_with (go_at_call 34; refine (hv2 _).mono ?_; rintro e w1 ⟨rfl, rfl⟩)
    exact Hf.out
  | some r =>
    obtain ⟨t, n⟩ := r
    have hv2 : ∀ w, Calls Try.prog 34 #[.string (s.extract a b)] w fun e w' => e = .returned (.tuple #[.string (B t), .int .i64 n, .bool true]) ∧ w = w' := fun w => (hv w).mono fun e w' h => by
      rw [hq] at h; exact ⟨h.1, h.2.symm⟩
    rw [hq] at hP
    obtain ⟨n1, n2, n3⟩ := val_bound hq
    rw [List.length_drop, List.length_take, hl0, Nat.min_eq_left hbs] at n2 n3
    have hanb : a + n ≤ b := by omega
    have x0 : (s.extract 0 a).data.toList = s.data.toList.take a := by rw [ext_data, List.drop_zero]
    have x1 : (s.extract a (a + n)).data.toList = (s.data.toList.take (a + n)).drop a := ext_data _ _ _
    have x2 : (s.extract (b - n) s.size).data.toList = s.data.toList.drop (b - n) := extr s (b - n)
    have e1 : IntKind.i64.wrap ((a : Int) + n) = (a : Int) + n := IntWalk.i64_in _ (by omega)
    have e2 : ((a : Int) + n).toNat = a + n := by omega
    have e3 : IntKind.i64.wrap ((b : Int) - n) = (b : Int) - n := IntWalk.i64_in _ (by omega)
    have e4 : ((b : Int) - n).toNat = b - n := by omega
    have z1 : (s.extract 0 a).size + (s.extract a (a + n)).size ≤ 35184372089000 := by simp; omega
    obtain ⟨i0, hi, iz0, iz1, iz2⟩ := info_parts piece_info
    obtain ⟨m, hm⟩ : ∃ m : List UInt8, m = (s.extract 0 a).data.toList ++ (s.extract a (a + n)).data.toList := ⟨_, rfl⟩
    have hmt : ∀ (bk : Nat) (w : World), (w.cell? ⟨bk, 0, none⟩ = some (.string (s.extract 0 a)) ∧ w.cell? ⟨bk, 1, none⟩ = some (.string (s.extract a (a + n)))) → Calls Try.prog 20 #[.slice (some ⟨bk, 0, none⟩) 2 2] w fun e w' => e = .returned (.agg #[.bool true, .string (B nMark), .string (B m)]) ∧ Below w.heap.size w w' := fun bk w h => by rw [hm]; exact Mark_two bk _ _ w h z1
    have pv : pcV (mk (s.data.toList.take a ++ (s.data.toList.take (a + n)).drop a)) ++ pcV (false, nm.data.toList, t) = [.bool true, .string (B nMark), .string (B m), .bool false, .string nm, .string (B t)] := by
      rw [hm, x0, x1]; unfold pcV mk; rw [← B_of nm]; rfl
    rw [x0, x1] at hm
    by_cases hE : s.size - (b - n) = 0
    · have hle : s.data.toList.drop (b - n) = [] := List.drop_of_length_le (by omega)
      have hem : (s.extract (b - n) s.size).toList.isEmpty = true := by rw [ByteArray.toList_eq, x2, hle]; rfl
      have fin8 : ∀ (W : World), Below w.heap.size w W → P (.returned (.tuple #[.slice (some ⟨W.heap.size, 0, none⟩) 2 2, .bool true])) (W.alloc (.cells #[.bool true, .string (B nMark), .string (B m), .bool false, .string nm, .string (B t)] 30)) := fun W hb => by
        rw [← hP]
        refine ⟨_, rfl, ?_, hb.alloc hb.size _⟩
        simp only [Option.getD_some]
        rw [hle]
        have := rows3_new (f := pcV) W 30 [mk (s.data.toList.take a ++ (s.data.toList.take (a + n)).drop a), (false, nm.data.toList, t)] (by simp)
        simp only [List.flatMap_cons, List.flatMap_nil, List.append_nil, pv] at this
        exact this
      have Fin8 := Lib.hid fin8
      clear hv hP hr fin8 pv hle x0 x1 x2 hm
      go_enter Try.func24, Try.ntmps24
      have hB0 : Below w.heap.size w w.drew := (Below.refl _ _).drew
      go_wp2_with (go_at_call 34; refine (hv2 _).mono ?_; rintro e w1 ⟨rfl, rfl⟩)
      refine wp_region_pl (fun _ => True) (.one 0 true (.one 1 true (.one 2 true (.one 3 true (.one 4 true (.one 5 true (.one 6 true (.one 7 true (.one 8 true (.one 11 true (.one 12 true (.one 9 false (.one 10 false (.one 13 false (.one 14 false (.one 15 true .nil)))))))))))))))) (by kernel_rfl) (by kernel_rfl) (by kernel_rfl) (Nat.le_of_ble_eq_true rfl) (fun _ _ d _ _ h => by cases d <;> exact h) trivial ?_
      generalize w.drew = W0 at *
      refine' pl_pure rfl (by rfl) _ (fun w hSw => _) _
      rotate_left
      · go_simp
        try with_reducible rfl
      try simp only [Act.put, List.setIfInBounds_toArray, List.set_cons_zero, List.set_cons_succ]
      refine' pl_pure rfl (by rfl) _ (fun w hSw => _) _
      rotate_left
      · go_simp
        try with_reducible rfl
      try simp only [Act.put, List.setIfInBounds_toArray, List.set_cons_zero, List.set_cons_succ]
      refine pl_pure rfl (by rfl) (.string (s.extract 0 a)) (fun w hSw => by go_simp; omega) ?_
      try simp only [Act.put, List.setIfInBounds_toArray, List.set_cons_zero, List.set_cons_succ]
      refine' pl_pure rfl (by rfl) _ (fun w hSw => _) _
      rotate_left
      · go_simp
        try with_reducible rfl
      try simp only [Act.put, List.setIfInBounds_toArray, List.set_cons_zero, List.set_cons_succ]
      refine' pl_pure rfl (by rfl) _ (fun w hSw => _) _
      rotate_left
      · go_simp
        try with_reducible rfl
      try simp only [Act.put, List.setIfInBounds_toArray, List.set_cons_zero, List.set_cons_succ]
      refine' pl_pure rfl (by rfl) _ (fun w hSw => _) _
      rotate_left
      · go_simp
        try with_reducible rfl
      try simp only [Act.put, List.setIfInBounds_toArray, List.set_cons_zero, List.set_cons_succ]
      refine' pl_pure rfl (by rfl) _ (fun w hSw => _) _
      rotate_left
      · go_simp
        try with_reducible rfl
      try simp only [Act.put, List.setIfInBounds_toArray, List.set_cons_zero, List.set_cons_succ]
      refine pl_pure rfl (by rfl) (.int .i64 ((a : Int) + n)) (fun w hSw => by go_simp; try rw [e1]) ?_
      try simp only [Act.put, List.setIfInBounds_toArray, List.set_cons_zero, List.set_cons_succ]
      refine pl_pure rfl (by rfl) (.string (s.extract a (a + n))) (fun w hSw => by go_simp; rw [if_pos (by omega), if_pos (by omega)]) ?_
      try simp only [Act.put, List.setIfInBounds_toArray, List.set_cons_zero, List.set_cons_succ]
      refine' pl_pure rfl (by rfl) _ (fun w hSw => _) _
      rotate_left
      · go_simp
        try with_reducible rfl
      try simp only [Act.put, List.setIfInBounds_toArray, List.set_cons_zero, List.set_cons_succ]
      refine' pl_pure rfl (by rfl) _ (fun w hSw => _) _
      rotate_left
      · go_simp
        try with_reducible rfl
      try simp only [Act.put, List.setIfInBounds_toArray, List.set_cons_zero, List.set_cons_succ]
      refine pl_eff (eff_of rfl (by rfl) (fun K hK => ?_))
      go_simp
      go_wp2_with fail
      have hA_1 := newA2 W0 (.string (s.extract 0 a)) (.string (s.extract a (a + n))) 9
      have hB1 := hB0.alloc hB0.size (.cells #[.string (s.extract 0 a), .string (s.extract a (a + n))] 9)
      refine hK.out _ _ trivial ?_
      clear hK K
      try simp only [Act.put, List.setIfInBounds_toArray, List.set_cons_zero, List.set_cons_succ]
      generalize W0.alloc (.cells #[.string (s.extract 0 a), .string (s.extract a (a + n))] 9) = W1 at *
      refine pl_eff (eff_of rfl (by rfl) (fun K hK => ?_))
      go_simp
      refine (hmt _ _ hA_1).mono ?_
      rintro e W2 ⟨rfl, hb2⟩
      have hB2 := hB1.trans (hb2.mono hB1.size)
      go_wp2_with fail
      refine hK.out _ _ trivial ?_
      clear hK K
      try simp only [Act.put, List.setIfInBounds_toArray, List.set_cons_zero, List.set_cons_succ]
      refine pl_eff (eff_of rfl (by rfl) (fun K hK => ?_))
      go_simp
      refine (Text_any _ _ _).mono ?_
      rintro e W3 ⟨rfl, hb3⟩
      have hB3 := hB2.trans (hb3.mono hB2.size)
      go_wp2_with fail
      refine hK.out _ _ trivial ?_
      clear hK K
      try simp only [Act.put, List.setIfInBounds_toArray, List.set_cons_zero, List.set_cons_succ]
      refine pl_eff (eff_of rfl (by rfl) (fun K hK => ?_))
      go_simp
      go_wp2_with fail
      refine hK.out _ _ trivial ?_
      clear hK K
      try simp only [Act.put, List.setIfInBounds_toArray, List.set_cons_zero, List.set_cons_succ]
      refine' pl_pure rfl (by rfl) _ (fun w hSw => _) _
      rotate_left
      · go_simp
        try with_reducible rfl
      try simp only [Act.put, List.setIfInBounds_toArray, List.set_cons_zero, List.set_cons_succ]
      refine pl_nil ?_
      go_wp2_with fail
      show P (.returned (.tuple #[.slice (some ⟨W3.heap.size, 0, none⟩) 2 2, .bool true])) _
      exact Fin8.out W3 hB3
    · have hle : s.data.toList.drop (b - n) ≠ [] := fun e => by have := congrArg List.length e; rw [List.length_drop, hl0] at this; exact hE this
      have hem : (s.extract (b - n) s.size).toList.isEmpty = false := by
        rw [ByteArray.toList_eq, x2]
        generalize s.data.toList.drop (b - n) = l at *
        cases l with
        | nil => exact absurd rfl hle
        | cons _ _ => rfl
      have fin8 : ∀ (W : World) (v : Value), W.ownsRow w.heap.size 30 3 v (2 + 1) ([.bool true, .string (B nMark), .string (B m), .bool false, .string nm, .string (B t)] ++ [.bool true, .string (B nMark), .string (s.extract (b - n) s.size)]) → Below w.heap.size w W → P (.returned (.tuple #[v, .bool true])) W := fun W v hown hb => by
        rw [← hP]
        refine ⟨_, rfl, ?_, hb⟩
        have e9 : endP (s.data.toList.drop (b - n)) = [mk (s.data.toList.drop (b - n))] := if_neg hle
        simp only [Option.getD_some]
        rw [e9]
        refine Rows3.of_own (base := w.heap.size) (e := 30) (n := 2 + 1) (by simp) ?_ (fun e => by simp at e)
        simp only [List.flatMap_cons, List.flatMap_nil, List.append_nil]
        rw [← List.append_assoc, pv, show pcV (mk (s.data.toList.drop (b - n))) = [.bool true, .string (B nMark), .string (s.extract (b - n) s.size)] by rw [← x2]; unfold pcV mk; rw [← B_of]]
        exact hown
      have Fin8 := Lib.hid fin8
      clear hv hP hr fin8 pv hle x0 x1 x2 hm
      go_enter Try.func24, Try.ntmps24
      have hB0 : Below w.heap.size w w.drew := (Below.refl _ _).drew
      go_wp2_with (go_at_call 34; refine (hv2 _).mono ?_; rintro e w1 ⟨rfl, rfl⟩)
      refine wp_region_pl (fun _ => True) (.one 0 true (.one 1 true (.one 2 true (.one 3 true (.one 4 true (.one 5 true (.one 6 true (.one 7 true (.one 8 true (.one 11 true (.one 12 true (.one 9 false (.one 10 false (.one 13 false (.one 14 false (.one 15 true .nil)))))))))))))))) (by kernel_rfl) (by kernel_rfl) (by kernel_rfl) (Nat.le_of_ble_eq_true rfl) (fun _ _ d _ _ h => by cases d <;> exact h) trivial ?_
      generalize w.drew = W0 at *
      refine' pl_pure rfl (by rfl) _ (fun w hSw => _) _
      rotate_left
      · go_simp
        try with_reducible rfl
      try simp only [Act.put, List.setIfInBounds_toArray, List.set_cons_zero, List.set_cons_succ]
      refine' pl_pure rfl (by rfl) _ (fun w hSw => _) _
      rotate_left
      · go_simp
        try with_reducible rfl
      try simp only [Act.put, List.setIfInBounds_toArray, List.set_cons_zero, List.set_cons_succ]
      refine pl_pure rfl (by rfl) (.string (s.extract 0 a)) (fun w hSw => by go_simp; omega) ?_
      try simp only [Act.put, List.setIfInBounds_toArray, List.set_cons_zero, List.set_cons_succ]
      refine' pl_pure rfl (by rfl) _ (fun w hSw => _) _
      rotate_left
      · go_simp
        try with_reducible rfl
      try simp only [Act.put, List.setIfInBounds_toArray, List.set_cons_zero, List.set_cons_succ]
      refine' pl_pure rfl (by rfl) _ (fun w hSw => _) _
      rotate_left
      · go_simp
        try with_reducible rfl
      try simp only [Act.put, List.setIfInBounds_toArray, List.set_cons_zero, List.set_cons_succ]
      refine' pl_pure rfl (by rfl) _ (fun w hSw => _) _
      rotate_left
      · go_simp
        try with_reducible rfl
      try simp only [Act.put, List.setIfInBounds_toArray, List.set_cons_zero, List.set_cons_succ]
      refine' pl_pure rfl (by rfl) _ (fun w hSw => _) _
      rotate_left
      · go_simp
        try with_reducible rfl
      try simp only [Act.put, List.setIfInBounds_toArray, List.set_cons_zero, List.set_cons_succ]
      refine pl_pure rfl (by rfl) (.int .i64 ((a : Int) + n)) (fun w hSw => by go_simp; try rw [e1]) ?_
      try simp only [Act.put, List.setIfInBounds_toArray, List.set_cons_zero, List.set_cons_succ]
      refine pl_pure rfl (by rfl) (.string (s.extract a (a + n))) (fun w hSw => by go_simp; rw [if_pos (by omega), if_pos (by omega)]) ?_
      try simp only [Act.put, List.setIfInBounds_toArray, List.set_cons_zero, List.set_cons_succ]
      refine' pl_pure rfl (by rfl) _ (fun w hSw => _) _
      rotate_left
      · go_simp
        try with_reducible rfl
      try simp only [Act.put, List.setIfInBounds_toArray, List.set_cons_zero, List.set_cons_succ]
      refine' pl_pure rfl (by rfl) _ (fun w hSw => _) _
      rotate_left
      · go_simp
        try with_reducible rfl
      try simp only [Act.put, List.setIfInBounds_toArray, List.set_cons_zero, List.set_cons_succ]
      refine pl_eff (eff_of rfl (by rfl) (fun K hK => ?_))
      go_simp
      go_wp2_with fail
      have hA_1 := newA2 W0 (.string (s.extract 0 a)) (.string (s.extract a (a + n))) 9
      have hB1 := hB0.alloc hB0.size (.cells #[.string (s.extract 0 a), .string (s.extract a (a + n))] 9)
      refine hK.out _ _ trivial ?_
      clear hK K
      try simp only [Act.put, List.setIfInBounds_toArray, List.set_cons_zero, List.set_cons_succ]
      generalize W0.alloc (.cells #[.string (s.extract 0 a), .string (s.extract a (a + n))] 9) = W1 at *
      refine pl_eff (eff_of rfl (by rfl) (fun K hK => ?_))
      go_simp
      refine (hmt _ _ hA_1).mono ?_
      rintro e W2 ⟨rfl, hb2⟩
      have hB2 := hB1.trans (hb2.mono hB1.size)
      go_wp2_with fail
      refine hK.out _ _ trivial ?_
      clear hK K
      try simp only [Act.put, List.setIfInBounds_toArray, List.set_cons_zero, List.set_cons_succ]
      refine pl_eff (eff_of rfl (by rfl) (fun K hK => ?_))
      go_simp
      refine (Text_any _ _ _).mono ?_
      rintro e W3 ⟨rfl, hb3⟩
      have hB3 := hB2.trans (hb3.mono hB2.size)
      go_wp2_with fail
      refine hK.out _ _ trivial ?_
      clear hK K
      try simp only [Act.put, List.setIfInBounds_toArray, List.set_cons_zero, List.set_cons_succ]
      refine pl_eff (eff_of rfl (by rfl) (fun K hK => ?_))
      go_simp
      go_wp2_with fail
      refine hK.out _ _ trivial ?_
      clear hK K
      try simp only [Act.put, List.setIfInBounds_toArray, List.set_cons_zero, List.set_cons_succ]
      refine' pl_pure rfl (by rfl) _ (fun w hSw => _) _
      rotate_left
      · go_simp
        try with_reducible rfl
      try simp only [Act.put, List.setIfInBounds_toArray, List.set_cons_zero, List.set_cons_succ]
      refine pl_nil ?_
      have hown := World.ownsRow_lit (base := w.heap.size) (e := 30) (size := 3) W3 #[.bool true, .string (B nMark), .string (B m), .bool false, .string nm, .string (B t)] 2 hB3.size (by unfold maxLen; omega) rfl
      have hBx := hB3.alloc hB3.size (.cells #[.bool true, .string (B nMark), .string (B m), .bool false, .string nm, .string (B t)] 30)
      generalize W3.alloc (.cells #[.bool true, .string (B nMark), .string (B m), .bool false, .string nm, .string (B t)] 30) = X at *
      have hmk := Mark_one X.heap.size (s.extract (b - n) s.size) (X.alloc (.cells #[.string (s.extract (b - n) s.size)] 9)) (newA X _ _) (by simp; omega)
      go_wp2_with (first | (go_at_call 20; refine hmk.mono ?_; rintro e w2 ⟨rfl, hb2⟩; have hz2 := sz_a1 hb2; have hown2 := own_below (hown.alloc _) hb2; have hB2 := (hBx.alloc hBx.size _).trans (hb2.mono (by have := hBx.size; simp; omega))) | (at_builtin; refine wpList_append_own _ rfl _ _ 23 rfl w.heap.size 30 i0 _ 3 40 Try.underlying23 hi iz0 iz1 iz2 rfl (by decide) _ _ _ rfl (hown2.alloc _) ⟨w2.heap.size, 0, none⟩ 1 1 [.bool true, .string (B nMark), .string (s.extract (b - n) s.size)] rfl rfl ?d1 ?d2 ?d3 ?d4 ?d5 ?_))
      case d1 => exact three_new w2 _ _ _ _
      case d2 => intro u hu; simp only [List.mem_cons, List.not_mem_nil, or_false] at hu; rcases hu with rfl | rfl | rfl <;> rfl
      case d3 => unfold maxLen; omega
      case d4 => have := hB2.size; have := hBx.size; omega
      case d5 => have := hB2.size; have := hBx.size; simp; omega
      intro v3 w3 hown3 hg3 h03
      have hB3 := below_grownOwn (hB2.alloc (by have := hB2.size; omega) _) (hown2.alloc _) hg3 (by have := hB2.size; simp; omega) (Nat.le_refl _)
      have Hown3 := Lib.hid hown3
      clear hown3 h03 hown2 hg3 hown
      go_wp2_with fail
      show P (.returned (.tuple #[v3, .bool true])) _
      exact Fin8.out _ _ Hown3.out hB3
end Go.Proofs.Ytdjeeagedcppaaa
