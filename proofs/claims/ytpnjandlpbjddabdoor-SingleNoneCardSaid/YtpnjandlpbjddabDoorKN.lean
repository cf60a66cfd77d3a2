/- SingleNone holds: any bytes; condition: the tables of unicode/utf8 are laid. -/
import Derived.Test.YtpnjandlpbjddabDoorKM
set_option maxRecDepth 100000
set_option maxHeartbeats 1000000
namespace Go.Proofs.YtpnjandlpbjddabDoor
open Go Go.RowKit

theorem none_enc (W : World) (hT : Tabs W) : Calls Tryd.prog 10 #[.agg #[.slice none 0 0, .int .i64 0], .string ⟨#[97]⟩] W fun e w' => e = .returned (.tuple #[.string ⟨#[]⟩, .agg #[.int .i64 6, .int .i64 0]]) ∧ Below W.heap.size W w' :=
  SEncode_good none 0 0 [] ⟨#[97]⟩ [97] ⟨rfl, by decide⟩ [] rfl (fun x hx => by cases hx) (by decide) (by simp) W (TbR.nil W W.heap.size) hT
theorem four_c {w : World} {K1 K2 : Nat} {a b c d : Value} {T1 T2 : TypeId} {f1 f2 : Nat × Nat} (h1 : w.heap[K1]? = some (.cells #[a, b] T1 f1)) (h2 : w.heap[K2]? = some (.cells #[c, d] T2 f2)) :
    w.cell? ⟨K1, 0, none⟩ = some a ∧ w.cell? ⟨K1, 1, none⟩ = some b ∧ w.cell? ⟨K2, 0, none⟩ = some c ∧ w.cell? ⟨K2, 1, none⟩ = some d :=
  ⟨(two_c h1).1, (two_c h1).2, (two_c h2).1, (two_c h2).2⟩
theorem None_nil (w : World) (hT : Tabs w) :
    Calls Tryd.prog 4 #[.string ⟨#[]⟩] w fun e w' => e = .returned (.bool true) ∧ Below w.heap.size w w' := by
  have HP : Hid (∀ w', Below w.heap.size w w' → (fun e w' => e = Ending.returned (.bool true) ∧ Below w.heap.size w w') (.returned (.bool true)) w') := Lib.hid fun w' hb => ⟨rfl, hb⟩
  generalize (fun (e : Ending) (w' : World) => e = Ending.returned (.bool true) ∧ Below w.heap.size w w') = P at *
  have G0 : Hid (Below w.heap.size w w ∧ Tabs w) := Lib.hid ⟨Below.refl _ _, hT⟩
  have hdec := fun W hT => SDecode_any none 0 0 [] ⟨#[]⟩ [] rfl (fun x hx => by cases hx) (by decide) (by simp) W (TbR.nil W W.heap.size) hT
  unfold DdPost at hdec
  rw [show DdRes (dcF [] (⟨#[]⟩ : ByteArray).data.toList 0) = .tuple #[.string ⟨#[]⟩, .agg #[.int .i64 0, .int .i64 0]] from rfl] at hdec
  have Hdec := Lib.hid hdec
  clear hdec
  have G1 := stw G0 (al (.cells #[.slice none 0 0, .int .i64 0] 27))
  have F3 := Lib.hid (heap_alloc_new w (.cells #[.slice none 0 0, .int .i64 0] 27))
  go_enter Tryd.func4, Tryd.ntmps4
  go_wp2_with fail
  refine (Hdec.out _ G1.out.2).mono ?_
  rintro e w1 ⟨rfl, hb1⟩
  have G2 := stw (stw G1 hb1) (al (.cells #[.int .i64 0, .int .i64 0] 33))
  have F3b := Lib.hid (heap_below (heap_below F3.out hb1) (al (.cells #[.int .i64 0, .int .i64 0] 33)))
  have F5 := Lib.hid (heap_alloc_new w1 (.cells #[.int .i64 0, .int .i64 0] 33))
  obtain ⟨p0, p1⟩ := two_c F3b.out
  clear hb1 F3
  go_wp2_with fail
  refine (none_enc _ G2.out.2).mono ?_
  rintro e w2 ⟨rfl, hb2⟩
  have hbx := (al (w := w2) (.cells #[.int .i64 6, .int .i64 0] 33)).drew
  have G3 := stw (stw G2 hb2) hbx
  have F5b := Lib.hid (heap_below (heap_below F5.out hb2) hbx)
  have F7 := Lib.hid (show (w2.alloc (.cells #[.int .i64 6, .int .i64 0] 33)).drew.heap[w2.heap.size]? = _ from heap_alloc_new w2 (.cells #[.int .i64 6, .int .i64 0] 33))
  clear hb2 F5 F3b p0 p1 hbx
  go_wp2_with fail
  have hS0 := four_c F5b.out F7.out
  refine wp_region_lin (fun W => W.cell? ⟨w1.heap.size, 0, none⟩ = some (.int .i64 0) ∧ W.cell? ⟨w1.heap.size, 1, none⟩ = some (.int .i64 0) ∧ W.cell? ⟨w2.heap.size, 0, none⟩ = some (.int .i64 6) ∧ W.cell? ⟨w2.heap.size, 1, none⟩ = some (.int .i64 0)) [(0, false), (1, true), (2, true), (3, true), (4, true), (5, true), (6, true), (8, true), (9, true), (7, false), (10, true), (11, true), (12, true), (13, true), (14, true), (15, true), (16, true), (17, true), (18, true), (19, true), (20, true), (21, true), (22, true), (23, true), (24, true), (25, true), (26, true)] (by kernel_rfl) (by kernel_rfl) (by kernel_rfl) (Nat.le_of_ble_eq_true rfl) (fun _ _ d _ _ h => by cases d <;> exact h) hS0 ?_
  clear hS0
  generalize (w2.alloc (.cells #[.int .i64 6, .int .i64 0] 33)).drew = W0 at *
  refine lin_eff rfl (by rfl) (fun K hK => ?_)
  go_simp
  refine (awake5 _ G3.out.2).mono ?_
  rintro e w4 ⟨rfl, hb4⟩
  have G4 := stw G3 hb4
  have F5c := Lib.hid (heap_below F5b.out hb4)
  have F7b := Lib.hid (heap_below F7.out hb4)
  have hS1 := four_c F5c.out F7b.out
  clear hb4
  go_wp2_with fail
  refine hK.out _ _ hS1 ?_
  clear hK K
  try simp only [Act.put, List.setIfInBounds_toArray, List.set_cons_zero, List.set_cons_succ]
  repeat (first | (refine lin_skip rfl (by rfl) ?_; try simp only [Act.put, List.setIfInBounds_toArray, List.set_cons_zero, List.set_cons_succ]) | (refine' lin_pure rfl (by rfl) _ (fun W hSw => _) _; rotate_left; (obtain ⟨s1, s2, s3, s4⟩ := hSw; go_simp; try with_reducible rfl); try simp only [Act.put, List.setIfInBounds_toArray, List.set_cons_zero, List.set_cons_succ]))
  refine lin_eff rfl (by rfl) (fun K hK => ?_)
  go_simp
  refine (Bad_any 0 0 _).mono ?_
  rintro e w5 ⟨rfl, hb5⟩
  have G5 := stw G4 hb5
  have F5d := Lib.hid (heap_below F5c.out hb5)
  have F7c := Lib.hid (heap_below F7b.out hb5)
  have hS2 := four_c F5d.out F7c.out
  clear hb5 hS1
  go_wp2_with fail
  refine hK.out _ _ hS2 ?_
  clear hK K
  try simp only [Act.put, List.setIfInBounds_toArray, List.set_cons_zero, List.set_cons_succ]
  repeat (first | (refine lin_skip rfl (by rfl) ?_; try simp only [Act.put, List.setIfInBounds_toArray, List.set_cons_zero, List.set_cons_succ]) | (refine' lin_pure rfl (by rfl) _ (fun W hSw => _) _; rotate_left; (obtain ⟨s1, s2, s3, s4⟩ := hSw; go_simp; try with_reducible rfl); try simp only [Act.put, List.setIfInBounds_toArray, List.set_cons_zero, List.set_cons_succ]))
  refine lin_nil ?_
  go_wp2_with fail
  exact HP.out _ G5.out.1
theorem None_some (b : ByteArray) (hb0 : b.data.toList ≠ []) (hb : b.size ≤ 300) (w : World) (hT : Tabs w) :
    Calls Tryd.prog 4 #[.string b] w fun e w' => e = .returned (.bool true) ∧ Below w.heap.size w w' := by
  have HP : Hid (∀ w', Below w.heap.size w w' → (fun e w' => e = Ending.returned (.bool true) ∧ Below w.heap.size w w') (.returned (.bool true)) w') := Lib.hid fun w' hb => ⟨rfl, hb⟩
  generalize (fun (e : Ending) (w' : World) => e = Ending.returned (.bool true) ∧ Below w.heap.size w w') = P at *
  have G0 : Hid (Below w.heap.size w w ∧ Tabs w) := Lib.hid ⟨Below.refl _ _, hT⟩
  have hdec := fun W hT => SDecode_any none 0 0 [] b [] rfl (fun x hx => by cases hx) (by omega) (by simp) W (TbR.nil W W.heap.size) hT
  unfold DdPost at hdec
  have hdc : dcF [] b.data.toList 0 = .inr 0 := by
    cases h : b.data.toList with
    | nil => exact absurd h hb0
    | cons x l => rfl
  rw [hdc, show DdRes (.inr 0) = .tuple #[.string ⟨#[]⟩, .agg #[.int .i64 2, .int .i64 0]] from rfl] at hdec
  have hb3 : ¬ ((300 : Int) < b.size) := by omega
  have hem : b.toList.isEmpty = false := by
    rw [ByteArray.toList_eq]
    cases h : b.data.toList with
    | nil => exact absurd h hb0
    | cons x l => rfl
  have Hlf := Lib.hid (fun W => LFault_pos 0 (by decide) W)
  clear hdc hb0
  have Hdec := Lib.hid hdec
  clear hdec
  have G1 := stw G0 (al (.cells #[.slice none 0 0, .int .i64 0] 27))
  have F3 := Lib.hid (heap_alloc_new w (.cells #[.slice none 0 0, .int .i64 0] 27))
  go_enter Tryd.func4, Tryd.ntmps4
  go_wp2_with fail
  refine (Hdec.out _ G1.out.2).mono ?_
  rintro e w1 ⟨rfl, hb1⟩
  have G2 := stw (stw G1 hb1) (al (.cells #[.int .i64 2, .int .i64 0] 33))
  have F3b := Lib.hid (heap_below (heap_below F3.out hb1) (al (.cells #[.int .i64 2, .int .i64 0] 33)))
  have F5 := Lib.hid (heap_alloc_new w1 (.cells #[.int .i64 2, .int .i64 0] 33))
  obtain ⟨p0, p1⟩ := two_c F3b.out
  clear hb1 F3
  go_wp2_with fail
  refine (none_enc _ G2.out.2).mono ?_
  rintro e w2 ⟨rfl, hb2⟩
  have hbx := (al (w := w2) (.cells #[.int .i64 6, .int .i64 0] 33)).drew
  have G3 := stw (stw G2 hb2) hbx
  have F5b := Lib.hid (heap_below (heap_below F5.out hb2) hbx)
  have F7 := Lib.hid (show (w2.alloc (.cells #[.int .i64 6, .int .i64 0] 33)).drew.heap[w2.heap.size]? = _ from heap_alloc_new w2 (.cells #[.int .i64 6, .int .i64 0] 33))
  clear hb2 F5 F3b p0 p1 hbx
  go_wp2_with fail
  have hS0 := four_c F5b.out F7.out
  refine wp_region_lin (fun W => W.cell? ⟨w1.heap.size, 0, none⟩ = some (.int .i64 2) ∧ W.cell? ⟨w1.heap.size, 1, none⟩ = some (.int .i64 0) ∧ W.cell? ⟨w2.heap.size, 0, none⟩ = some (.int .i64 6) ∧ W.cell? ⟨w2.heap.size, 1, none⟩ = some (.int .i64 0)) [(0, false), (1, true), (2, true), (3, true), (4, true), (5, true), (6, true), (8, true), (9, true), (7, false), (10, true), (11, true), (12, true), (13, true), (14, true), (15, true), (16, true), (17, false), (18, true), (19, true), (20, true), (21, true), (22, true), (23, true), (24, true), (25, true), (26, true)] (by kernel_rfl) (by kernel_rfl) (by kernel_rfl) (Nat.le_of_ble_eq_true rfl) (fun _ _ d _ _ h => by cases d <;> exact h) hS0 ?_
  clear hS0
  generalize (w2.alloc (.cells #[.int .i64 6, .int .i64 0] 33)).drew = W0 at *
  refine lin_eff rfl (by rfl) (fun K hK => ?_)
  go_simp
  refine (awake5 _ G3.out.2).mono ?_
  rintro e w4 ⟨rfl, hb4⟩
  have G4 := stw G3 hb4
  have F5c := Lib.hid (heap_below F5b.out hb4)
  have F7b := Lib.hid (heap_below F7.out hb4)
  have hS1 := four_c F5c.out F7b.out
  clear hb4
  go_wp2_with fail
  refine hK.out _ _ hS1 ?_
  clear hK K
  try simp only [Act.put, List.setIfInBounds_toArray, List.set_cons_zero, List.set_cons_succ]
  repeat (first | (refine lin_skip rfl (by rfl) ?_; try simp only [Act.put, List.setIfInBounds_toArray, List.set_cons_zero, List.set_cons_succ]) | (refine' lin_pure rfl (by rfl) _ (fun W hSw => _) _; rotate_left; (obtain ⟨s1, s2, s3, s4⟩ := hSw; go_simp; try with_reducible rfl); try simp only [Act.put, List.setIfInBounds_toArray, List.set_cons_zero, List.set_cons_succ]))
  refine lin_eff rfl (by rfl) (fun K hK => ?_)
  go_simp
  refine (Bad_any 2 0 _).mono ?_
  rintro e w5 ⟨rfl, hb5⟩
  have G5 := stw G4 hb5
  have F5d := Lib.hid (heap_below F5c.out hb5)
  have F7c := Lib.hid (heap_below F7b.out hb5)
  have hS2 := four_c F5d.out F7c.out
  clear hb5 hS1
  go_wp2_with fail
  refine hK.out _ _ hS2 ?_
  clear hK K
  try simp only [Act.put, List.setIfInBounds_toArray, List.set_cons_zero, List.set_cons_succ]
  repeat (first | (refine lin_skip rfl (by rfl) ?_; try simp only [Act.put, List.setIfInBounds_toArray, List.set_cons_zero, List.set_cons_succ]) | (refine' lin_pure rfl (by rfl) _ (fun W hSw => _) _; rotate_left; (obtain ⟨s1, s2, s3, s4⟩ := hSw; go_simp; try with_reducible rfl); try simp only [Act.put, List.setIfInBounds_toArray, List.set_cons_zero, List.set_cons_succ]))
  refine lin_eff rfl (by rfl) (fun K hK => ?_)
  go_simp
  refine (Hlf.out _).mono ?_
  rintro e w6 ⟨rfl, hb6⟩
  have G6 := stw G5 hb6
  have hS3 := four_c (heap_below F5d.out hb6) (heap_below F7c.out hb6)
  clear hb6 hS2
  go_wp2_with fail
  refine hK.out _ _ hS3 ?_
  clear hK K
  try simp only [Act.put, List.setIfInBounds_toArray, List.set_cons_zero, List.set_cons_succ]
  repeat (first | (refine lin_skip rfl (by rfl) ?_; try simp only [Act.put, List.setIfInBounds_toArray, List.set_cons_zero, List.set_cons_succ]) | (refine' lin_pure rfl (by rfl) _ (fun W hSw => _) _; rotate_left; (obtain ⟨s1, s2, s3, s4⟩ := hSw; go_simp; try with_reducible rfl); try simp only [Act.put, List.setIfInBounds_toArray, List.set_cons_zero, List.set_cons_succ]))
  refine lin_nil ?_
  go_wp2_with fail
  exact HP.out _ G6.out.1
theorem SingleNone_law (b : ByteArray) (w : World) (hT : Tabs w) :
    Calls Tryd.prog 4 #[.string b] w fun e w' => e = .returned (.bool true) ∧ Below w.heap.size w w' := by
  by_cases hb : b.size ≤ 300
  · by_cases hb0 : b.data.toList = []
    · have e : b = ⟨#[]⟩ := by rw [← str_eq b, hb0]
      rw [e]
      exact None_nil w hT
    · exact None_some b hb0 hb w hT
  · have hb3 : (300 : Int) < b.size := by omega
    go_enter Tryd.func4, Tryd.ntmps4
    go_wp2_with (go_at_call 7; refine (awake5 _ hT).mono ?_; rintro e w2 ⟨rfl, hb2⟩)
    go_ret
    exact ⟨rfl, hb2⟩
end Go.Proofs.YtpnjandlpbjddabDoor
