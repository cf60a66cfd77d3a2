/- Contract of (*script).pieces; condition: at most 100,000 bytes. -/
import Derived.Test.YtlcgfgbdehdndaaDoorVF
set_option maxRecDepth 100000
set_option maxHeartbeats 8000000
namespace Go.Proofs.YtlcgfgbdehdndaaDoor
open Go Go.RowKit

theorem strE_yes {x : ByteArray} {l : List UInt8} (h : x.data.toList = l) : (x.toList == l) = true := by rw [ByteArray.toList_eq, h]; simp
theorem strE_no {x : ByteArray} {l : List UInt8} (h : x.data.toList ≠ l) : (x.toList == l) = false := by rw [ByteArray.toList_eq, beq_eq_false_iff_ne]; exact h
theorem exl (s : ByteArray) (n : Nat) : (s.extract 0 n).data.toList = s.data.toList.take n := by rw [ext_data, List.drop_zero]
theorem SPieces_any (C : Nat) (st : Ss) (s : ByteArray) (hs : s.size ≤ 100000) (w : World) (h : StS C st w) :
    Calls Tryd.prog 12 #[.pointer (some ⟨C, 0, none⟩), .string s] w (PcPostS ssaL st s.data.toList C (StS C) w) := by
  have hl0 := len_data s
  have hss : ssaL st s.data.toList = if s.data.toList = [] then some (st, []) else if s.data.toList[0]? = some 59 ∨ s.data.toList[0]? = some 33 then some (st, [mk (s.data.toList.take 1), (false, nRemark, s.data.toList.drop 1)])
    else if secB s.data.toList = true then some ((s.data.toList == kEvents, []), [mk s.data.toList]) else match keyL s.data.toList with
    | none => none
    | some n => if s.data.toList.take n = kFormat then some ((st.1, fmtL (s.data.toList.drop (n + 2))), [mk s.data.toList])
      else if st.1 = true then (evL (s.data.toList.take (n + 2)) (s.data.toList.drop (n + 2)) st.2).map fun ps => (st, ps)
      else some (st, [mk (s.data.toList.take (n + 2)), (false, s.data.toList.take n, s.data.toList.drop (n + 2))]) := rfl
  generalize hP : PcPostS ssaL st s.data.toList C (StS C) w = P
  have HN : Hid (ssaL st s.data.toList = none → ∀ w', But C w.heap.size w w' → P (.returned (.tuple #[.slice none 0 0, .bool false])) w') := Lib.hid fun h w' hb => by
    rw [← hP]; exact ⟨_, by rw [h]; rfl, by rw [h]; exact .inl ⟨rfl, rfl⟩, hb, fun st' ps e => by rw [h] at e; cases e⟩
  have HY : Hid (∀ st' ps, ssaL st s.data.toList = some (st', ps) → ∀ v w', Rows3 pcV w' v ps → StS C st' w' → But C w.heap.size w w' → P (.returned (.tuple #[v, .bool true])) w') := Lib.hid fun st' ps h v w' hr hst hb => by
    rw [← hP]; exact ⟨v, by rw [h]; rfl, by rw [h]; exact hr, hb, fun st2 ps2 e => by rw [h] at e; injection e with e; injection e with e1 e2; rw [← e1]; exact hst⟩
  clear hP
  have HS := Lib.hid h
  by_cases hz : s.size = 0
  · have hE : s.data.toList = [] := List.eq_nil_of_length_eq_zero (by omega)
    have hem : s.toList.isEmpty = true := by rw [ByteArray.toList_eq, hE]; rfl
    rw [if_pos hE] at hss
    have Hss := Lib.hid hss
    clear hss hE hz hl0 h
    go_enter Tryd.func12, Tryd.ntmps12
    go_wp2_with fail
    exact HY.out _ _ Hss.out _ _ (.inl ⟨rfl, rfl⟩) HS.out (But.refl _ _ _)
  have h0 : 0 < s.size := by omega
  have hE : s.data.toList ≠ [] := fun e => by rw [e] at hl0; simp at hl0; omega
  have hem : s.toList.isEmpty = false := by
    rw [ByteArray.toList_eq]
    generalize s.data.toList = l at *
    cases l with
    | nil => exact absurd rfl hE
    | cons _ _ => rfl
  rw [if_neg hE] at hss
  have g59 := get_eq s 0 h0 59
  have g33 := get_eq s 0 h0 33
  have hone : ∀ (x : ByteArray) (W : World), pcV (mk x.data.toList) = [.bool true, .string (B nMark), .string x] := fun x W => by unfold pcV mk; rw [← B_of]
  obtain ⟨told, v, h1, h2, h3, h4, h5⟩ := h
  have hClt := heap_lt h1
  clear hE hz
  by_cases q59 : s[0] = 59
  · have e59 : ((s[0].toNat : Int) == 59) = true := by rw [q59]; rfl
    rw [if_pos (.inl (g59.2 q59))] at hss
    have Hss := Lib.hid hss
    have hpv : pcV (mk (s.data.toList.take 1)) ++ pcV (false, nRemark, s.data.toList.drop 1) = [.bool true, .string (B nMark), .string (s.extract 0 1), .bool false, .string ⟨#[114, 101, 109, 97, 114, 107]⟩, .string (s.extract 1 s.size)] := by
      rw [← exl s 1, ← extr s 1, hone _ w]; unfold pcV; rw [← B_of]; rfl
    have hr := fun W => rows3_new (f := pcV) W 54 [mk (s.data.toList.take 1), (false, nRemark, s.data.toList.drop 1)] (by simp)
    simp only [List.flatMap_cons, List.flatMap_nil, List.append_nil, hpv] at hr
    have Hr := Lib.hid hr
    clear hss hr hpv hone g59 g33 q59 h1 h2 h3 h5
    go_enter Tryd.func12, Tryd.ntmps12
    have hB0 : Below w.heap.size w w.drew := (Below.refl _ _).drew
    go_wp2_with fail
    refine wp_region_lin (fun _ => True) [(0, true), (1, true), (4, true), (5, true), (2, false), (3, false), (6, false), (7, false), (8, true), (9, true)] (by kernel_rfl) (by kernel_rfl) (by kernel_rfl) (Nat.le_of_ble_eq_true rfl) (fun _ _ d _ _ h => by cases d <;> exact h) trivial ?_
    generalize w.drew = W0 at *
    refine' lin_pure rfl (by rfl) _ (fun W hSw => _) _
    rotate_left
    · go_simp
      try with_reducible rfl
    try simp only [Act.put, List.setIfInBounds_toArray, List.set_cons_zero, List.set_cons_succ]
    refine lin_pure rfl (by rfl) (.string (s.extract 0 1)) (fun W hSw => by go_simp; omega) ?_
    try simp only [Act.put, List.setIfInBounds_toArray, List.set_cons_zero, List.set_cons_succ]
    refine' lin_pure rfl (by rfl) _ (fun W hSw => _) _
    rotate_left
    · go_simp
      try with_reducible rfl
    try simp only [Act.put, List.setIfInBounds_toArray, List.set_cons_zero, List.set_cons_succ]
    refine lin_pure rfl (by rfl) (.string (s.extract 1 s.size)) (fun W hSw => by go_simp; omega) ?_
    try simp only [Act.put, List.setIfInBounds_toArray, List.set_cons_zero, List.set_cons_succ]
    refine lin_eff rfl (by rfl) (fun K hK => ?_)
    go_simp
    go_wp2_with fail
    refine hK.out _ _ trivial ?_
    clear hK K
    try simp only [Act.put, List.setIfInBounds_toArray, List.set_cons_zero, List.set_cons_succ]
    refine lin_eff rfl (by rfl) (fun K hK => ?_)
    go_simp
    refine (Mark_one W0.heap.size (s.extract 0 1) (W0.alloc (.cells #[.string (s.extract 0 1)] 9)) (newA W0 _ _) (by simp; omega)).mono ?_
    rintro e w2 ⟨rfl, hb2⟩
    have hB2 := hB0.trans ((below_a1 hb2).mono hB0.size)
    go_wp2_with fail
    refine hK.out _ _ trivial ?_
    clear hK K
    try simp only [Act.put, List.setIfInBounds_toArray, List.set_cons_zero, List.set_cons_succ]
    refine lin_eff rfl (by rfl) (fun K hK => ?_)
    go_simp
    refine (Text_any _ _ _).mono ?_
    rintro e w3 ⟨rfl, hb3⟩
    have hB3 := hB2.trans (hb3.mono hB2.size)
    go_wp2_with fail
    refine hK.out _ _ trivial ?_
    clear hK K
    try simp only [Act.put, List.setIfInBounds_toArray, List.set_cons_zero, List.set_cons_succ]
    refine lin_eff rfl (by rfl) (fun K hK => ?_)
    go_simp
    go_wp2_with fail
    refine hK.out _ _ trivial ?_
    clear hK K
    try simp only [Act.put, List.setIfInBounds_toArray, List.set_cons_zero, List.set_cons_succ]
    refine' lin_pure rfl (by rfl) _ (fun W hSw => _) _
    rotate_left
    · go_simp
      try with_reducible rfl
    try simp only [Act.put, List.setIfInBounds_toArray, List.set_cons_zero, List.set_cons_succ]
    refine' lin_pure rfl (by rfl) _ (fun W hSw => _) _
    rotate_left
    · go_simp
      try with_reducible rfl
    try simp only [Act.put, List.setIfInBounds_toArray, List.set_cons_zero, List.set_cons_succ]
    refine lin_nil ?_
    go_wp2_with fail
    exact HY.out _ _ Hss.out _ _ (Hr.out _) (HS.out.below (hB3.alloc hB3.size _)) (But.of (hB3.alloc hB3.size _))
  have e59 : ((s[0].toNat : Int) == 59) = false := by rw [beq_eq_false_iff_ne]; exact fun e => q59 (UInt8.toNat_inj.1 (by show s[0].toNat = 59; omega))
  by_cases q33 : s[0] = 33
  · have e33 : ((s[0].toNat : Int) == 33) = true := by rw [q33]; rfl
    rw [if_pos (.inr (g33.2 q33))] at hss
    have Hss := Lib.hid hss
    have hpv : pcV (mk (s.data.toList.take 1)) ++ pcV (false, nRemark, s.data.toList.drop 1) = [.bool true, .string (B nMark), .string (s.extract 0 1), .bool false, .string ⟨#[114, 101, 109, 97, 114, 107]⟩, .string (s.extract 1 s.size)] := by
      rw [← exl s 1, ← extr s 1, hone _ w]; unfold pcV; rw [← B_of]; rfl
    have hr := fun W => rows3_new (f := pcV) W 54 [mk (s.data.toList.take 1), (false, nRemark, s.data.toList.drop 1)] (by simp)
    simp only [List.flatMap_cons, List.flatMap_nil, List.append_nil, hpv] at hr
    have Hr := Lib.hid hr
    clear hss hr hpv hone g59 g33 q59 q33 h1 h2 h3 h5
    go_enter Tryd.func12, Tryd.ntmps12
    have hB0 : Below w.heap.size w w.drew := (Below.refl _ _).drew
    go_wp2_with fail
    refine wp_region_lin (fun _ => True) [(0, true), (1, true), (4, true), (5, true), (2, false), (3, false), (6, false), (7, false), (8, true), (9, true)] (by kernel_rfl) (by kernel_rfl) (by kernel_rfl) (Nat.le_of_ble_eq_true rfl) (fun _ _ d _ _ h => by cases d <;> exact h) trivial ?_
    generalize w.drew = W0 at *
    refine' lin_pure rfl (by rfl) _ (fun W hSw => _) _
    rotate_left
    · go_simp
      try with_reducible rfl
    try simp only [Act.put, List.setIfInBounds_toArray, List.set_cons_zero, List.set_cons_succ]
    refine lin_pure rfl (by rfl) (.string (s.extract 0 1)) (fun W hSw => by go_simp; omega) ?_
    try simp only [Act.put, List.setIfInBounds_toArray, List.set_cons_zero, List.set_cons_succ]
    refine' lin_pure rfl (by rfl) _ (fun W hSw => _) _
    rotate_left
    · go_simp
      try with_reducible rfl
    try simp only [Act.put, List.setIfInBounds_toArray, List.set_cons_zero, List.set_cons_succ]
    refine lin_pure rfl (by rfl) (.string (s.extract 1 s.size)) (fun W hSw => by go_simp; omega) ?_
    try simp only [Act.put, List.setIfInBounds_toArray, List.set_cons_zero, List.set_cons_succ]
    refine lin_eff rfl (by rfl) (fun K hK => ?_)
    go_simp
    go_wp2_with fail
    refine hK.out _ _ trivial ?_
    clear hK K
    try simp only [Act.put, List.setIfInBounds_toArray, List.set_cons_zero, List.set_cons_succ]
    refine lin_eff rfl (by rfl) (fun K hK => ?_)
    go_simp
    refine (Mark_one W0.heap.size (s.extract 0 1) (W0.alloc (.cells #[.string (s.extract 0 1)] 9)) (newA W0 _ _) (by simp; omega)).mono ?_
    rintro e w2 ⟨rfl, hb2⟩
    have hB2 := hB0.trans ((below_a1 hb2).mono hB0.size)
    go_wp2_with fail
    refine hK.out _ _ trivial ?_
    clear hK K
    try simp only [Act.put, List.setIfInBounds_toArray, List.set_cons_zero, List.set_cons_succ]
    refine lin_eff rfl (by rfl) (fun K hK => ?_)
    go_simp
    refine (Text_any _ _ _).mono ?_
    rintro e w3 ⟨rfl, hb3⟩
    have hB3 := hB2.trans (hb3.mono hB2.size)
    go_wp2_with fail
    refine hK.out _ _ trivial ?_
    clear hK K
    try simp only [Act.put, List.setIfInBounds_toArray, List.set_cons_zero, List.set_cons_succ]
    refine lin_eff rfl (by rfl) (fun K hK => ?_)
    go_simp
    go_wp2_with fail
    refine hK.out _ _ trivial ?_
    clear hK K
    try simp only [Act.put, List.setIfInBounds_toArray, List.set_cons_zero, List.set_cons_succ]
    refine' lin_pure rfl (by rfl) _ (fun W hSw => _) _
    rotate_left
    · go_simp
      try with_reducible rfl
    try simp only [Act.put, List.setIfInBounds_toArray, List.set_cons_zero, List.set_cons_succ]
    refine' lin_pure rfl (by rfl) _ (fun W hSw => _) _
    rotate_left
    · go_simp
      try with_reducible rfl
    try simp only [Act.put, List.setIfInBounds_toArray, List.set_cons_zero, List.set_cons_succ]
    refine lin_nil ?_
    go_wp2_with fail
    exact HY.out _ _ Hss.out _ _ (Hr.out _) (HS.out.below (hB3.alloc hB3.size _)) (But.of (hB3.alloc hB3.size _))
  have e33 : ((s[0].toNat : Int) == 33) = false := by rw [beq_eq_false_iff_ne]; exact fun e => q33 (UInt8.toNat_inj.1 (by show s[0].toNat = 33; omega))
  rw [if_neg (by rintro (e | e); exact q59 (g59.1 e); exact q33 (g33.1 e))] at hss
  have hsec := fun W => Section_any s hs W
  have hkey := fun W => Keyed_any s hs h0 W
  have hr1 := fun W => rows3_new (f := pcV) W 54 [mk s.data.toList] (by simp)
  simp only [List.flatMap_cons, List.flatMap_nil, List.append_nil, hone _ w] at hr1
  have Hr1 := Lib.hid hr1
  clear g59 g33 q59 q33 hr1
  have c0 : w.cell? ⟨C, 0, none⟩ = some (.bool st.1) := by rw [cell_of_row _ C 0 _ _ (0, 0) h1]; rfl
  have c1 : w.cell? ⟨C, 1, none⟩ = some (.bool told) := by rw [cell_of_row _ C 1 _ _ (0, 0) h1]; rfl
  have c2 : w.cell? ⟨C, 2, none⟩ = some v := by rw [cell_of_row _ C 2 _ _ (0, 0) h1]; rfl
  have f0 := frozen_of_row _ C 0 _ _ h1
  have f1 := frozen_of_row _ C 1 _ _ h1
  have f2 := frozen_of_row _ C 2 _ _ h1
  cases hsc : secB s.data.toList with
  | true =>
    rw [if_pos hsc] at hss
    rw [hsc] at hsec
    have Hss := Lib.hid hss
    have hbq : (s.toList == [91, 69, 118, 101, 110, 116, 115, 93]) = (s.data.toList == kEvents) := by rw [ByteArray.toList_eq]; rfl
    obtain ⟨W, hW⟩ : ∃ W, W = ((w.setCell ⟨C, 0, none⟩ (.bool (s.data.toList == kEvents))).setCell ⟨C, 1, none⟩ (.bool false)).setCell ⟨C, 2, none⟩ (.slice none 0 0) := ⟨_, rfl⟩
    have hWC : W.heap[C]? = some (.cells #[.bool (s.data.toList == kEvents), .bool false, .slice none 0 0] 39 (0, 0)) := by
      rw [hW]
      have a1 := heap_setCell_same w C 0 _ _ (.bool (s.data.toList == kEvents)) h1
      have a2 := heap_setCell_same _ C 1 _ _ (.bool false) a1
      exact heap_setCell_same _ C 2 _ _ (.slice none 0 0) a2
    have hWb : But C w.heap.size w W := by rw [hW]; exact (((But.refl C _ w).setCell (.inr rfl) _).setCell (.inr rfl) _).setCell (.inr rfl) _
    have HW : Hid (StS C (s.data.toList == kEvents, []) W) := Lib.hid ⟨false, _, hWC, by simp, .inl ⟨rfl, rfl, rfl⟩, h4, ML_heap h5 (hWb.block _ (ML_lt h5) (by omega))⟩
    have HWb := Lib.hid hWb
    have hWz : W.heap.size = w.heap.size := by rw [hW]; simp
    have hmk := Mark_one W.heap.size s (W.alloc (.cells #[.string s] 9)) (newA W _ _) (by omega)
    rw [hWz] at hmk
    have hWz2 := Lib.hid hWz
    clear hWz
    subst hW
    clear hss hkey hone h1 h2 h3 h5 hsc hWb hWC
    go_enter Tryd.func12, Tryd.ntmps12
    go_wp2_with (first
      | (go_at_call 28; refine (hsec _).mono ?_; rintro e w1 ⟨rfl, rfl⟩)
      | (go_at_call 26; refine hmk.mono ?_; rintro e w3 ⟨rfl, hb3⟩; have hB3 := Lib.hid (below_a1 hb3); clear hb3))
    exact HY.out _ _ Hss.out _ _ (Hr1.out _) ((HW.out.below hB3.out).below ((Below.refl _ _).alloc (Nat.le_refl _) _)) ((HWb.out.trans (But.of (hB3.out.mono (Nat.le_of_eq hWz2.out.symm)))).alloc (by have := hB3.out.size; have := hWz2.out; omega) _)
  | false =>
    rw [if_neg (by rw [hsc]; simp)] at hss
    rw [hsc] at hsec
    cases hk : keyL s.data.toList with
    | none =>
      rw [hk] at hss hkey
      simp only [kyV, Option.getD_none, Option.isSome_none, Option.getD_some, Option.isSome_some] at hkey
      have Hss := Lib.hid hss
      clear hss hone h1 h2 h3 h5 hsc hk
      go_enter Tryd.func12, Tryd.ntmps12
      go_wp2_with (first
        | (go_at_call 28; refine (hsec _).mono ?_; rintro e w1 ⟨rfl, rfl⟩)
        | (go_at_call 29; refine (hkey _).mono ?_; rintro e w1 ⟨rfl, rfl⟩))
      exact HN.out Hss.out _ (But.refl _ _ _)
    | some n =>
      rw [hk] at hss hkey
      simp only [kyV, Option.getD_none, Option.isSome_none, Option.getD_some, Option.isSome_some] at hkey
      have hkl : n + 2 ≤ s.size := by
        obtain ⟨k, y, e, _, _, _, rfl⟩ := keyL_some hk
        have := congrArg List.length e
        simp at this
        omega
      have e1 : IntKind.i64.wrap ((n : Int) + 2) = (n : Int) + 2 := IntWalk.i64_in _ (by omega)
      have e2 : ((n : Int) + 2).toNat = n + 2 := by omega
      simp only at hss
      have x0 := exl s n
      have x2 := exl s (n + 2)
      have y2 := extr s (n + 2)
      by_cases hf : s.data.toList.take n = kFormat
      · rw [if_pos hf] at hss
        have t1 := strE_yes (x0.trans hf)
        unfold kFormat at t1
        have Hss := Lib.hid hss
        have hfm := Format_any C st (s.extract (n + 2) s.size) (by simp; omega) w HS.out
        rw [y2] at hfm
        clear hss hone h1 h2 h3 h5 hsc hk hf x0 x2 y2
        go_enter Tryd.func12, Tryd.ntmps12
        go_wp2_with (first
          | (go_at_call 28; refine (hsec _).mono ?_; rintro e w1 ⟨rfl, rfl⟩)
          | (go_at_call 29; refine (hkey _).mono ?_; rintro e w1 ⟨rfl, rfl⟩)
          | (go_at_call 30; refine hfm.mono ?_; rintro e w2 ⟨rfl, hst2, hb2⟩; have HST2 := Lib.hid hst2; have hz2 := hb2.size; clear hst2)
          | (go_at_call 26; refine (Mark_one w2.heap.size s (w2.alloc (.cells #[.string s] 9)) (newA w2 _ _) (by omega)).mono ?_; rintro e w3 ⟨rfl, hb3⟩; have hB3 := below_a1 hb3; have hz3 := hB3.size))
        exact HY.out _ _ Hss.out _ _ (Hr1.out _) ((HST2.out.below hB3).below ((Below.refl _ _).alloc (Nat.le_refl _) _)) ((hb2.trans (But.of (hB3.mono hz2))).alloc (by omega) _)
      · rw [if_neg hf] at hss
        have t1 := strE_no (fun e => hf (x0.symm.trans e))
        unfold kFormat at t1
        cases hev : st.1 with
        | true =>
          rw [if_pos hev] at hss
          rw [hev] at c0
          have hvt := Event_any C st (s.extract 0 (n + 2)) (s.extract (n + 2) s.size) (by simp; omega) (by simp; omega) w HS.out
          rw [x2, y2] at hvt
          clear hone h1 h2 h3 h5 hsc hk hf x0 x2 y2 hev
          go_enter Tryd.func12, Tryd.ntmps12
          have hB0 : Below w.heap.size w w.drew := (Below.refl _ _).drew
          have hvt2 := Event_any C st (s.extract 0 (n + 2)) (s.extract (n + 2) s.size) (by simp; omega) (by simp; omega) w.drew (HS.out.below hB0)
          rw [exl, extr] at hvt2
          go_wp2_with (first
            | (go_at_call 28; refine (hsec _).mono ?_; rintro e w1 ⟨rfl, rfl⟩)
            | (go_at_call 29; refine (hkey _).mono ?_; rintro e w1 ⟨rfl, rfl⟩))
          refine wp_region_lin (fun _ => True) [(0, true), (1, true), (2, true), (3, true), (4, true), (5, true), (6, true), (7, false), (8, true), (9, true), (10, true), (11, true)] (by kernel_rfl) (by kernel_rfl) (by kernel_rfl) (Nat.le_of_ble_eq_true rfl) (fun _ _ d _ _ h => by cases d <;> exact h) trivial ?_
          generalize w.drew = W0 at *
          refine' lin_pure rfl (by rfl) _ (fun W hSw => _) _
          rotate_left
          · go_simp
            try with_reducible rfl
          try simp only [Act.put, List.setIfInBounds_toArray, List.set_cons_zero, List.set_cons_succ]
          refine' lin_pure rfl (by rfl) _ (fun W hSw => _) _
          rotate_left
          · go_simp
            try with_reducible rfl
          try simp only [Act.put, List.setIfInBounds_toArray, List.set_cons_zero, List.set_cons_succ]
          refine' lin_pure rfl (by rfl) _ (fun W hSw => _) _
          rotate_left
          · go_simp
            try with_reducible rfl
          try simp only [Act.put, List.setIfInBounds_toArray, List.set_cons_zero, List.set_cons_succ]
          refine lin_pure rfl (by rfl) (.string (s.extract 0 (n + 2))) (fun W hSw => by go_simp; omega) ?_
          try simp only [Act.put, List.setIfInBounds_toArray, List.set_cons_zero, List.set_cons_succ]
          refine' lin_pure rfl (by rfl) _ (fun W hSw => _) _
          rotate_left
          · go_simp
            try with_reducible rfl
          try simp only [Act.put, List.setIfInBounds_toArray, List.set_cons_zero, List.set_cons_succ]
          refine' lin_pure rfl (by rfl) _ (fun W hSw => _) _
          rotate_left
          · go_simp
            try with_reducible rfl
          try simp only [Act.put, List.setIfInBounds_toArray, List.set_cons_zero, List.set_cons_succ]
          refine lin_pure rfl (by rfl) (.string (s.extract (n + 2) s.size)) (fun W hSw => by go_simp; omega) ?_
          try simp only [Act.put, List.setIfInBounds_toArray, List.set_cons_zero, List.set_cons_succ]
          refine lin_eff rfl (by rfl) (fun K hK => ?_)
          go_simp
          refine (hvt2).mono ?_
          rintro e w2 ⟨v2, rfl, hr2, hb2⟩
          go_wp2_with fail
          refine hK.out _ _ trivial ?_
          clear hK K
          try simp only [Act.put, List.setIfInBounds_toArray, List.set_cons_zero, List.set_cons_succ]
          refine' lin_pure rfl (by rfl) _ (fun W hSw => _) _
          rotate_left
          · go_simp
            try with_reducible rfl
          try simp only [Act.put, List.setIfInBounds_toArray, List.set_cons_zero, List.set_cons_succ]
          refine' lin_pure rfl (by rfl) _ (fun W hSw => _) _
          rotate_left
          · go_simp
            try with_reducible rfl
          try simp only [Act.put, List.setIfInBounds_toArray, List.set_cons_zero, List.set_cons_succ]
          refine' lin_pure rfl (by rfl) _ (fun W hSw => _) _
          rotate_left
          · go_simp
            try with_reducible rfl
          try simp only [Act.put, List.setIfInBounds_toArray, List.set_cons_zero, List.set_cons_succ]
          refine' lin_pure rfl (by rfl) _ (fun W hSw => _) _
          rotate_left
          · go_simp
            try with_reducible rfl
          try simp only [Act.put, List.setIfInBounds_toArray, List.set_cons_zero, List.set_cons_succ]
          refine lin_nil ?_
          go_wp2_with fail
          have hB2 := hB0.trans (hb2.mono hB0.size)
          cases hq : evL (s.data.toList.take (n + 2)) (s.data.toList.drop (n + 2)) st.2 with
          | none =>
            rw [hq] at hss hr2
            rcases hr2 with ⟨_, rfl⟩ | ⟨_, _, h6, _⟩
            · exact HN.out hss _ (But.of hB2)
            · exact absurd rfl h6
          | some ps =>
            rw [hq] at hss hr2
            exact HY.out _ _ hss _ _ hr2 (HS.out.below hB2) (But.of hB2)
        | false =>
          rw [if_neg (by rw [hev]; simp)] at hss
          rw [hev] at c0
          have Hss := Lib.hid hss
          have hpv : pcV (mk (s.data.toList.take (n + 2))) ++ pcV (false, s.data.toList.take n, s.data.toList.drop (n + 2)) = [.bool true, .string (B nMark), .string (s.extract 0 (n + 2)), .bool false, .string (s.extract 0 n), .string (s.extract (n + 2) s.size)] := by
            rw [← x0, ← x2, ← y2, hone _ w]; unfold pcV; rw [← B_of, ← B_of]; rfl
          have hr := fun W => rows3_new (f := pcV) W 54 [mk (s.data.toList.take (n + 2)), (false, s.data.toList.take n, s.data.toList.drop (n + 2))] (by simp)
          simp only [List.flatMap_cons, List.flatMap_nil, List.append_nil, hpv] at hr
          have Hr := Lib.hid hr
          clear hss hr hpv hone h1 h2 h3 h5 hsc hk hf x0 x2 y2 hev
          go_enter Tryd.func12, Tryd.ntmps12
          have hB0 : Below w.heap.size w w.drew := (Below.refl _ _).drew
          go_wp2_with (first
            | (go_at_call 28; refine (hsec _).mono ?_; rintro e w1 ⟨rfl, rfl⟩)
            | (go_at_call 29; refine (hkey _).mono ?_; rintro e w1 ⟨rfl, rfl⟩))
          refine wp_region_lin (fun _ => True) [(0, true), (1, true), (2, true), (5, true), (6, true), (7, true), (8, true), (3, false), (4, false), (9, false), (10, false), (11, true), (12, true)] (by kernel_rfl) (by kernel_rfl) (by kernel_rfl) (Nat.le_of_ble_eq_true rfl) (fun _ _ d _ _ h => by cases d <;> exact h) trivial ?_
          generalize w.drew = W0 at *
          refine' lin_pure rfl (by rfl) _ (fun W hSw => _) _
          rotate_left
          · go_simp
            try with_reducible rfl
          try simp only [Act.put, List.setIfInBounds_toArray, List.set_cons_zero, List.set_cons_succ]
          refine' lin_pure rfl (by rfl) _ (fun W hSw => _) _
          rotate_left
          · go_simp
            try with_reducible rfl
          try simp only [Act.put, List.setIfInBounds_toArray, List.set_cons_zero, List.set_cons_succ]
          refine lin_pure rfl (by rfl) (.string (s.extract 0 (n + 2))) (fun W hSw => by go_simp; omega) ?_
          try simp only [Act.put, List.setIfInBounds_toArray, List.set_cons_zero, List.set_cons_succ]
          refine' lin_pure rfl (by rfl) _ (fun W hSw => _) _
          rotate_left
          · go_simp
            try with_reducible rfl
          try simp only [Act.put, List.setIfInBounds_toArray, List.set_cons_zero, List.set_cons_succ]
          refine' lin_pure rfl (by rfl) _ (fun W hSw => _) _
          rotate_left
          · go_simp
            try with_reducible rfl
          try simp only [Act.put, List.setIfInBounds_toArray, List.set_cons_zero, List.set_cons_succ]
          refine' lin_pure rfl (by rfl) _ (fun W hSw => _) _
          rotate_left
          · go_simp
            try with_reducible rfl
          try simp only [Act.put, List.setIfInBounds_toArray, List.set_cons_zero, List.set_cons_succ]
          refine lin_pure rfl (by rfl) (.string (s.extract (n + 2) s.size)) (fun W hSw => by go_simp; omega) ?_
          try simp only [Act.put, List.setIfInBounds_toArray, List.set_cons_zero, List.set_cons_succ]
          refine lin_eff rfl (by rfl) (fun K hK => ?_)
          go_simp
          go_wp2_with fail
          refine hK.out _ _ trivial ?_
          clear hK K
          try simp only [Act.put, List.setIfInBounds_toArray, List.set_cons_zero, List.set_cons_succ]
          refine lin_eff rfl (by rfl) (fun K hK => ?_)
          go_simp
          refine (Mark_one W0.heap.size (s.extract 0 (n + 2)) (W0.alloc (.cells #[.string (s.extract 0 (n + 2))] 9)) (newA W0 _ _) (by simp; omega)).mono ?_
          rintro e w2 ⟨rfl, hb2⟩
          have hB2 := hB0.trans ((below_a1 hb2).mono hB0.size)
          go_wp2_with fail
          refine hK.out _ _ trivial ?_
          clear hK K
          try simp only [Act.put, List.setIfInBounds_toArray, List.set_cons_zero, List.set_cons_succ]
          refine lin_eff rfl (by rfl) (fun K hK => ?_)
          go_simp
          refine (Text_any _ _ _).mono ?_
          rintro e w3 ⟨rfl, hb3⟩
          have hB3 := hB2.trans (hb3.mono hB2.size)
          go_wp2_with fail
          refine hK.out _ _ trivial ?_
          clear hK K
          try simp only [Act.put, List.setIfInBounds_toArray, List.set_cons_zero, List.set_cons_succ]
          refine lin_eff rfl (by rfl) (fun K hK => ?_)
          go_simp
          go_wp2_with fail
          refine hK.out _ _ trivial ?_
          clear hK K
          try simp only [Act.put, List.setIfInBounds_toArray, List.set_cons_zero, List.set_cons_succ]
          refine' lin_pure rfl (by rfl) _ (fun W hSw => _) _
          rotate_left
          · go_simp
            try with_reducible rfl
          try simp only [Act.put, List.setIfInBounds_toArray, List.set_cons_zero, List.set_cons_succ]
          refine' lin_pure rfl (by rfl) _ (fun W hSw => _) _
          rotate_left
          · go_simp
            try with_reducible rfl
          try simp only [Act.put, List.setIfInBounds_toArray, List.set_cons_zero, List.set_cons_succ]
          refine lin_nil ?_
          go_wp2_with fail
          exact HY.out _ _ Hss.out _ _ (Hr.out _) (HS.out.below (hB3.alloc hB3.size _)) (But.of (hB3.alloc hB3.size _))
end Go.Proofs.YtlcgfgbdehdndaaDoor
