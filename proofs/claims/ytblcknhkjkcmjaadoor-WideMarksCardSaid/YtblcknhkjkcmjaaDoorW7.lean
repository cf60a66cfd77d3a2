/- Contracts of the document's answer for layer 3: Units, Decode; condition: fewer than 2^45 bytes. -/
import Derived.Test.YtblcknhkjkcmjaaDoorW6
set_option maxRecDepth 100000
set_option maxHeartbeats 1000000
namespace Go.Proofs.YtblcknhkjkcmjaaDoor
open Go Go.RowKit

def unitsL (big : Bool) : List UInt8 → List Int
  | a :: b :: r => unitB big a b :: unitsL big r
  | _ => []
theorem unitsL_len (big : Bool) : ∀ l : List UInt8, (unitsL big l).length = l.length / 2
  | [] => rfl
  | [_] => by simp [unitsL]
  | a :: b :: r => by
    have := unitsL_len big r
    simp only [unitsL, List.length_cons, this]
    omega
theorem unitsL_drop (big : Bool) : ∀ (i : Nat) (l : List UInt8), unitsL big (l.drop (2 * i)) = (unitsL big l).drop i
  | 0, l => rfl
  | i + 1, [] => by simp [unitsL]
  | i + 1, [x] => by
    have : [x].drop (2 * (i + 1)) = ([] : List UInt8) := by rw [List.drop_eq_nil_iff]; simp; omega
    rw [this]; simp [unitsL]
  | i + 1, a :: b :: r => by
    have : (a :: b :: r).drop (2 * (i + 1)) = r.drop (2 * i) := by
      rw [show 2 * (i + 1) = 2 * i + 1 + 1 from by omega, List.drop_succ_cons, List.drop_succ_cons]
    rw [this, unitsL_drop big i r]
    rfl
def usign : List Int → Int × Nat
  | u :: r => if u < 55296 ∨ 57344 ≤ u then (u, 1) else if 56320 ≤ u then (0, 0) else
    match r with
    | v :: _ => if v < 56320 ∨ 57344 ≤ v then (0, 0) else (65536 + (u - 55296) * 1024 + (v - 56320), 2)
    | [] => (0, 0)
  | [] => (0, 0)
theorem wsign_usign (big : Bool) : ∀ l : List UInt8, wsign big l = ((usign (unitsL big l)).1, 2 * (usign (unitsL big l)).2)
  | [] => rfl
  | [_] => rfl
  | [a, b] => by
    simp only [wsign, unitsL, usign]
    repeat' split
    all_goals rfl
  | [a, b, c] => by
    simp only [wsign, unitsL, usign]
    repeat' split
    all_goals rfl
  | a :: b :: c :: d :: r => by
    simp only [wsign, unitsL, usign]
    repeat' split
    all_goals rfl
theorem usign_one {us : List Int} {p : Int} (h : usign us = (p, 1)) : ∃ r, us = p :: r ∧ (p < 55296 ∨ 57344 ≤ p) := by
  match us with
  | [] => simp [usign] at h
  | u :: r =>
    simp only [usign] at h
    by_cases c : u < 55296 ∨ 57344 ≤ u
    · rw [if_pos c] at h
      obtain rfl := (Prod.ext_iff.1 h).1
      exact ⟨r, rfl, c⟩
    · rw [if_neg c] at h
      by_cases c2 : 56320 ≤ u
      · rw [if_pos c2] at h; simp at h
      · rw [if_neg c2] at h
        match r with
        | [] => simp at h
        | v :: _ =>
          simp only at h
          split at h <;> simp at h
theorem usign_two {us : List Int} {p : Int} (h : usign us = (p, 2)) : ∃ u v r, us = u :: v :: r ∧ 55296 ≤ u ∧ u < 56320 ∧ 56320 ≤ v ∧ v < 57344 ∧ p = 65536 + (u - 55296) * 1024 + (v - 56320) := by
  match us with
  | [] => simp [usign] at h
  | u :: r =>
    simp only [usign] at h
    by_cases c : u < 55296 ∨ 57344 ≤ u
    · rw [if_pos c] at h; simp at h
    · rw [if_neg c] at h
      by_cases c2 : 56320 ≤ u
      · rw [if_pos c2] at h; simp at h
      · rw [if_neg c2] at h
        match r with
        | [] => simp at h
        | v :: r =>
          simp only at h
          by_cases c3 : v < 56320 ∨ 57344 ≤ v
          · rw [if_pos c3] at h; simp at h
          · rw [if_neg c3] at h
            exact ⟨u, v, r, rfl, by omega, by omega, by omega, by omega, ((Prod.ext_iff.1 h).1).symm⟩
theorem usign_no {us : List Int} (h : (usign us).2 = 0) (hne : us ≠ []) : ∃ u r, us = u :: r ∧ 55296 ≤ u ∧ u < 57344 ∧ (56320 ≤ u ∨ (u < 56320 ∧ r = []) ∨ (u < 56320 ∧ ∃ v t, r = v :: t ∧ (v < 56320 ∨ 57344 ≤ v))) := by
  match us with
  | [] => exact absurd rfl hne
  | u :: r =>
    simp only [usign] at h
    by_cases c : u < 55296 ∨ 57344 ≤ u
    · rw [if_pos c] at h; simp at h
    · rw [if_neg c] at h
      refine ⟨u, r, rfl, by omega, by omega, ?_⟩
      by_cases c2 : 56320 ≤ u
      · exact .inl c2
      · rw [if_neg c2] at h
        match r with
        | [] => exact .inr (.inl ⟨by omega, rfl⟩)
        | v :: r =>
          simp only at h
          by_cases c3 : v < 56320 ∨ 57344 ≤ v
          · exact .inr (.inr ⟨by omega, v, r, rfl, c3⟩)
          · rw [if_neg c3] at h; simp at h

theorem drop_get {us : List Int} {i : Nat} {u : Int} {r : List Int} (h : us.drop i = u :: r) : i < us.length ∧ us.getD i 0 = u := by
  have h0 : i < us.length := by
    have := congrArg List.length h
    simp at this
    omega
  rw [List.drop_eq_getElem_cons h0] at h
  refine ⟨h0, ?_⟩
  rw [List.getD, List.getElem?_eq_getElem h0]
  exact (List.cons.inj h).1
theorem drop_get2 {us : List Int} {i : Nat} {u v : Int} {r : List Int} (h : us.drop i = u :: v :: r) : i + 1 < us.length ∧ us.getD i 0 = u ∧ us.getD (i + 1) 0 = v := by
  obtain ⟨h0, h1⟩ := drop_get h
  have h2 : us.drop (i + 1) = v :: r := by
    rw [List.drop_eq_getElem_cons h0] at h
    exact (List.cons.inj h).2
  obtain ⟨h3, h4⟩ := drop_get h2
  exact ⟨h3, h1, h4⟩

def UnitsRel (big : Bool) (s : ByteArray) (w0 : World) (v i : Value) (wr : World) : Prop :=
  ∃ k : Nat, 2 * k ≤ s.size ∧ i = .int .i64 (2 * k + 1) ∧ wr.ownsRow w0.heap.size 3 1 v k (((unitsL big s.data.toList).take k).map (Value.int .i64)) ∧ Below w0.heap.size w0 wr
theorem int_info : (Tryd.prog.info? 3).map (fun i => (i.zero, i.size, i.bytes)) = some (some (.int .i64 0), 1, 8) := by kernel_rfl
theorem unit_next (big : Bool) (s : ByteArray) (k : Nat) (h : 2 * k + 1 < s.size) : (unitsL big s.data.toList).take (k + 1) = (unitsL big s.data.toList).take k ++ [unitB big s[2 * k] s[2 * k + 1]] := by
  have hl := unitsL_len big s.data.toList
  have hs : s.data.toList.length = s.size := by simp
  have hk : k < (unitsL big s.data.toList).length := by omega
  rw [take_getD hk]
  have hd := drop_two s (2 * k) h
  have hu := unitsL_drop big k s.data.toList
  rw [hd] at hu
  have := (drop_get (us := unitsL big s.data.toList) (i := k) hu.symm).2
  rw [this]

theorem RUnits_any (s : ByteArray) (hs : s.size ≤ 35184372088000) (big : Bool) (w : World) :
    Calls Tryd.prog 56 #[.string s, .bool big] w fun e w' => ∃ A c, e = .returned (.slice A (unitsL big s.data.toList).length c) ∧ Nums w' w'.heap.size .i64 A (unitsL big s.data.toList) ∧ Below w.heap.size w w' := by
  obtain ⟨i0, hi, iz0, iz1, iz2⟩ := info_parts int_info
  have hul := unitsL_len big s.data.toList
  have hsl : s.data.toList.length = s.size := by simp
  rw [hsl] at hul
  go_enter Tryd.func56, Tryd.ntmps56
  go_wp2_with fail
  go_loopw [5, 6] (fun v i wr => UnitsRel big s w v i wr) (fun _ i _ => s.size + 1 - (intOf i).toNat)
  case atStart => exact ⟨0, by omega, rfl, World.ownsRow_nil _ _ _ _, Below.refl _ _⟩
  case round =>
    obtain ⟨k, hk, rfl, hown, hb⟩ := hrel
    have hsz := hb.size
    by_cases hlt : 2 * k + 1 < s.size
    · have hnext := unit_next big s k hlt
      have Hn : Hid (((unitsL big s.data.toList).take (k + 1)).map (Value.int .i64) = ((unitsL big s.data.toList).take k).map (Value.int .i64) ++ [.int .i64 (unitB big s[2 * k] s[2 * k + 1])]) := by
        rw [hnext, List.map_append]; rfl
      have hA1 : 0 ≤ 2 * (k : Int) := by omega
      have hA2 : 2 * (k : Int) < (s.size : Int) := by omega
      have hA3 : (2 * (k : Int)).toNat = 2 * k := by omega
      have hA4 : 2 * (k : Int) + 1 < (s.size : Int) := by omega
      have hA5 : (2 * (k : Int) + 1).toNat = 2 * k + 1 := by omega
      have hA6 : 0 ≤ 2 * (k : Int) + 1 := by omega
      have hA7 : (2 * (k : Int) + 1) - 1 = 2 * (k : Int) := by omega
      clear hnext hul
      go_wp2_with fail
      refine wp_region_lin (fun _ => True) [(0, true), (1, true), (2, true), (3, true), (4, true), (5, true), (6, true), (7, true), (8, true), (9, false), (10, false), (11, false), (12, true)] (by kernel_rfl) (by kernel_rfl) (by kernel_rfl) (Nat.le_of_ble_eq_true rfl) (fun _ _ d _ _ h => by cases d <;> exact h) trivial ?_
      iterate 3 (refine' lin_pure rfl (by rfl) _ (fun w hSw => _) _; rotate_left; (go_simp; try with_reducible rfl); try simp only [Act.put, List.setIfInBounds_toArray, List.set_cons_zero, List.set_cons_succ])
      refine lin_pure rfl (by rfl) (.int .i64 (2 * (k : Int))) (fun w hSw => by go_simp; rw [IntWalk.i64_in _ (by omega)]) ?_
      simp only [Act.put, List.setIfInBounds_toArray, List.set_cons_zero, List.set_cons_succ]
      refine lin_pure rfl (by rfl) (.int .u8 (s[2 * k].toNat : Int)) (fun w hSw => by go_simp) ?_
      simp only [Act.put, List.setIfInBounds_toArray, List.set_cons_zero, List.set_cons_succ]
      iterate 2 (refine' lin_pure rfl (by rfl) _ (fun w hSw => _) _; rotate_left; (go_simp; try with_reducible rfl); try simp only [Act.put, List.setIfInBounds_toArray, List.set_cons_zero, List.set_cons_succ])
      refine lin_pure rfl (by rfl) (.int .u8 (s[2 * k + 1].toNat : Int)) (fun w hSw => by go_simp) ?_
      simp only [Act.put, List.setIfInBounds_toArray, List.set_cons_zero, List.set_cons_succ]
      iterate 1 (refine' lin_pure rfl (by rfl) _ (fun w hSw => _) _; rotate_left; (go_simp; try with_reducible rfl); try simp only [Act.put, List.setIfInBounds_toArray, List.set_cons_zero, List.set_cons_succ])
      refine lin_eff rfl (by rfl) (fun K hK => ?_)
      go_simp
      refine (RUnit_any _ _ big _).mono ?_
      rintro e w1 ⟨rfl, rfl⟩
      go_wp2_with fail
      refine hK.out _ _ trivial ?_
      clear hK K
      try simp only [Act.put, List.setIfInBounds_toArray, List.set_cons_zero, List.set_cons_succ]
      refine lin_eff rfl (by rfl) (fun K hK => ?_)
      go_simp
      go_wp2_with fail
      refine hK.out _ _ trivial ?_
      clear hK K
      try simp only [Act.put, List.setIfInBounds_toArray, List.set_cons_zero, List.set_cons_succ]
      refine lin_eff rfl (by rfl) (fun K hK => ?_)
      refine wp_append_own _ _ _ 85 rfl w.heap.size 3 i0 (.int .i64 0) 1 8 Tryd.underlying85 hi iz0 iz1 iz2 rfl (by decide) u5 k _ rfl (hown.drew.alloc _) ⟨wr.heap.size, 0, none⟩ 1 1 [.int .i64 (unitB big s[2 * k] s[2 * k + 1])] rfl rfl (cell_one_new wr.drew _ _) (by intro u hu; simp at hu; subst hu; rfl) (by unfold maxLen; omega) (by omega) (by simp; omega) ?_
      intro v' w5 hown5 hg5 _
      refine hK.out _ _ trivial ?_
      clear hK K
      try simp only [Act.put, List.setIfInBounds_toArray, List.set_cons_zero, List.set_cons_succ]
      refine lin_pure rfl (by rfl) v' (fun w hSw => by go_simp) ?_
      try simp only [Act.put, List.setIfInBounds_toArray, List.set_cons_zero, List.set_cons_succ]
      refine lin_nil ?_
      have hb5 := below_grownOwn (hb.drew.alloc (by simpa using hsz) (.cells #[.int .i64 (unitB big s[2 * k] s[2 * k + 1])] 3)) (hown.drew.alloc _) hg5 (by simp; omega) (Nat.le_refl _)
      rw [← Hn.out] at hown5
      go_wp2_with fail
      go_roundw
      case rel => exact ⟨k + 1, by omega, by rw [show ((k + 1 : Nat) : Int) = (k : Int) + 1 from rfl]; congr 1, hown5, hb5⟩
      case measure => simp [intOf]; omega
    · have hge : ¬ 2 * (k : Int) + 1 < (s.size : Int) := by omega
      have hk2 : k = (unitsL big s.data.toList).length := by omega
      subst hk2
      rw [List.take_length] at hown
      obtain ⟨A, c, hv, _, _, hn⟩ := Nums.of_own hown
      subst hv
      clear hul hown
      go_wp2_with fail
      go_ret
      exact ⟨A, ⟨c, rfl⟩, hn, hb⟩
end Go.Proofs.YtblcknhkjkcmjaaDoor
