/- Law RunOvers; condition: the pieces lie as listed, with their signs. -/
import Derived.Test.YtmfnnggnnnagiaaDoorRY
set_option maxRecDepth 100000
set_option maxHeartbeats 8000000
namespace Go.Proofs.YtmfnnggnnnagiaaDoor
open Go Go.RowKit

theorem mdL_le {l : List Pce} (hok : ∀ p ∈ l, PceOk p) : (mdL l).length ≤ 1048576 := by
  unfold mdL
  cases h : madeF [] l 0 with
  | inr k => simp
  | inl M => exact made_le hok h
section
variable {l : List Pce} {w : World} {A : Option Addr} {c : Nat}
theorem law_table (hL : LightP l) (hok : ∀ p ∈ l, PceOk p) (hT : Tabs w) (h : PcsL w w.heap.size A l) (W : World) (hb : Below w.heap.size w W) :
    Calls Tryd.prog 18 #[.slice A l.length c] W fun e w' => ∃ s, e = .returned (.agg #[s]) ∧ TBV (mdL l) 4096 s w' ∧ Below W.heap.size W w' := by
  refine (Table_any l A c (by have := hL.1; omega) (fun p hp => ⟨hok p hp, by have := (hL.2 p hp).2; omega⟩) W (Tabs_below hT hb (Nat.le_refl _)) ((h.below hb).more hb.size)).mono ?_
  rintro e w' ⟨A', c', rs, rfl, h1, h2, h3, h4, h5⟩
  exact ⟨_, rfl, ⟨A', c', rs, rfl, h2, h3, h4⟩, h5⟩
end
theorem RunOvers_law (l m n : List Pce) (A1 A2 A3 : Option Addr) (c1 c2 c3 : Nat) (code p : Int) (hp : -2147483648 ≤ p ∧ p < 2147483648) (ok1 : ∀ p ∈ l, PceOk p) (ok2 : ∀ p ∈ m, PceOk p) (ok3 : ∀ p ∈ n, PceOk p) (w : World) (hT : Tabs w) (h1 : PcsL w w.heap.size A1 l) (h2 : PcsL w w.heap.size A2 m) (h3 : PcsL w w.heap.size A3 n) :
    Calls Tryd.prog 5 #[.slice A1 l.length c1, .slice A2 m.length c2, .slice A3 n.length c3, .int .i64 code, .int .i32 p] w fun e w' => e = .returned (.bool true) ∧ Below w.heap.size w w' := by
  have HP : Hid (∀ w', Below w.heap.size w w' → (fun e w' => e = Ending.returned (.bool true) ∧ Below w.heap.size w w') (.returned (.bool true)) w') := Lib.hid fun w' hb => ⟨rfl, hb⟩
  generalize (fun (e : Ending) (w' : World) => e = Ending.returned (.bool true) ∧ Below w.heap.size w w') = P at *
  have haw := fun W (hb : Below w.heap.size w W) => awake4 W (Tabs_below hT hb (Nat.le_refl _))
  by_cases hL1 : LightP l
  · have hLt1 := law_light (c := c1) hL1 h1 w (Below.refl _ _)
    by_cases hL2 : LightP m
    · have hLt2 := fun W hb => law_light (c := c2) hL2 h2 W hb
      by_cases hL3 : LightP n
      · have hLt3 := fun W hb => law_light (c := c3) hL3 h3 W hb
        have hT1 := fun W hb => law_table (c := c1) hL1 ok1 hT h1 W hb
        have hT2 := fun W hb => law_table (c := c2) hL2 ok2 hT h2 W hb
        have hT3 := fun W hb => law_table (c := c3) hL3 ok3 hT h3 W hb
        have hM1 := fun W hb => law_made (c := c1) hL1 ok1 h1 rfl rfl W hb
        have hM2 := fun W hb => law_made (c := c2) hL2 ok2 h2 rfl rfl W hb
        have hM3 := fun W hb => law_made (c := c3) hL3 ok3 h3 rfl rfl W hb
        have hn1 := mdL_le ok1
        have hn2 := mdL_le ok2
        have hn3 := mdL_le ok3
        generalize mdL l = L at *
        generalize mdL m = M at *
        generalize mdL n = N at *
        generalize mdAt l = q1 at *
        generalize mdAt m = q2 at *
        generalize mdAt n = q3 at *
        clear ok1 ok2 ok3 hL1 hL2 hL3 h1 h2 h3 hT
        go_enter Tryd.func5, Tryd.ntmps5
        go_wp2_with (first
          | (go_at_call 7; first
            | (refine hLt1.mono ?_; rintro e w1 ⟨rfl, hb1⟩; have HB1 := Lib.hid hb1; clear hLt1 hb1)
            | (refine (hLt2 _ HB1.out).mono ?_; rintro e w2 ⟨rfl, hb2⟩; have HB2 := Lib.hid (HB1.out.trans (hb2.mono HB1.out.size)); clear hLt2 hb2)
            | (refine (hLt3 _ HB2.out).mono ?_; rintro e w3 ⟨rfl, hb3⟩; have HB3 := Lib.hid (HB2.out.trans (hb3.mono HB2.out.size)); clear hLt3 hb3))
          | (go_at_call 18; first
            | (refine (hT1 _ HB3.out).mono ?_; rintro e w4 ⟨sx, rfl, hx4, hb4⟩; obtain ⟨ax, nx, cx, rfl⟩ := hx4.slice; have HB4 := Lib.hid (HB3.out.trans (hb4.mono HB3.out.size)); have HX4 := Lib.hid hx4; clear hT1 hb4 hx4)
            | (refine (hT2 _ HB4.out).mono ?_; rintro e w5 ⟨sy, rfl, hy5, hb5⟩; obtain ⟨ay, ny, cy, rfl⟩ := hy5.slice; have HB5 := Lib.hid (HB4.out.trans (hb5.mono HB4.out.size)); have HX5 := Lib.hid (HX4.out.below hb5); have HY5 := Lib.hid hy5; clear hT2 hb5 hy5 HX4)
            | (refine (hT3 _ HB5.out).mono ?_; rintro e w6 ⟨sz, rfl, hz6, hb6⟩; obtain ⟨az, nz, cz, rfl⟩ := hz6.slice; have HB6 := Lib.hid (HB5.out.trans (hb6.mono HB5.out.size)); have HX6 := Lib.hid (HX5.out.below hb6); have HY6 := Lib.hid (HY5.out.below hb6); have HZ6 := Lib.hid hz6; clear hT3 hb6 hz6 HX5 HY5; have HW6 := Lib.hid (below_3x HB6.out HB6.out.size (.slice ax nx cx) (.slice ay ny cy) (.slice az nz cz) 27)))
          | (go_at_call 10; first
            | (refine (hM1 _ HW6.out).mono ?_; rintro e w7 ⟨B1, d1, rfl, g7, hl7, hb7⟩; have HC7 : Hid (Below (W3x w6 (.slice ax nx cx) (.slice ay ny cy) (.slice az nz cz) 27).heap.size (W3x w6 (.slice ax nx cx) (.slice ay ny cy) (.slice az nz cz) 27) w7) := Lib.hid hb7; have HL7 := Lib.hid hl7; clear hM1 hb7 hl7)
            | (refine (hM2 _ (HW6.out.trans (HC7.out.mono HW6.out.size))).mono ?_; rintro e w8 ⟨B2, d2, rfl, g8, hl8, hb8⟩; have HC8 := Lib.hid (HC7.out.trans (hb8.mono HC7.out.size)); have HL8 := Lib.hid ((HL7.out.below hb8).more hb8.size); have HM8 := Lib.hid hl8; clear hM2 hb8 hl8 HL7)
            | (refine (hM3 _ (HW6.out.trans (HC8.out.mono HW6.out.size))).mono ?_; rintro e w9 ⟨B3, d3, rfl, g9, hl9, hb9⟩; have HC9 := Lib.hid (HC8.out.trans (hb9.mono HC8.out.size)); have HL9 := Lib.hid ((HL8.out.below hb9).more hb9.size); have HM9 := Lib.hid ((HM8.out.below hb9).more hb9.size); have HN9 := Lib.hid hl9; clear hM3 hb9 hl9 HL8 HM8))
          | (go_at_call 19; first
            | (refine (ROver_any B2 B3 d2 d3 M N g8 (by omega) _ HM9.out HN9.out).mono ?_; rintro e w10 ⟨B4, d4, rfl, g10, hl10, hb10⟩; have HC10 := Lib.hid (HC9.out.trans (hb10.mono HC9.out.size)); have HL10 := Lib.hid ((HL9.out.below hb10).more hb10.size); have HM10 := Lib.hid ((HM9.out.below hb10).more hb10.size); have HO10 := Lib.hid hl10; clear hb10 hl10 HL9 HM9 HN9)
            | (refine (ROver_any B1 B4 d1 d4 L (overL M N) g7 (by have := overL_len M N; omega) _ HL10.out HO10.out).mono ?_; rintro e w11 ⟨B5, d5, rfl, g11, hl11, hb11⟩; have HC11 := Lib.hid (HC10.out.trans (hb11.mono HC10.out.size)); have HL11 := Lib.hid ((HL10.out.below hb11).more hb11.size); have HM11 := Lib.hid ((HM10.out.below hb11).more hb11.size); have HO11 := Lib.hid hl11; clear hb11 hl11 HL10 HM10 HO10)))
        have HW11 := Lib.hid (HW6.out.trans (HC11.out.mono HW6.out.size))
        have HX11 := Lib.hid (HX6.out.below ((below_3x (Below.refl _ _) (Nat.le_refl _) _ _ _ _).trans (HC11.out.mono (by rw [w3x_size]; omega))))
        have HY11 := Lib.hid (HY6.out.below ((below_3x (Below.refl _ _) (Nat.le_refl _) _ _ _ _).trans (HC11.out.mono (by rw [w3x_size]; omega))))
        have HZ11 := Lib.hid (HZ6.out.below ((below_3x (Below.refl _ _) (Nat.le_refl _) _ _ _ _).trans (HC11.out.mono (by rw [w3x_size]; omega))))
        obtain ⟨p1, p2, p3, ps⟩ := bx111 HC11.out
        clear HX6 HY6 HZ6
        have hVx : ∀ W, Below w11.heap.size w11 W → TBV L 4096 (.slice ax nx cx) W := fun W hW => HX11.out.below hW
        have hVy : ∀ W, Below w11.heap.size w11 W → TBV M 4096 (.slice ay ny cy) W := fun W hW => HY11.out.below hW
        have hVz : ∀ W, Below w11.heap.size w11 W → TBV N 4096 (.slice az nz cz) W := fun W hW => HZ11.out.below hW
        have hbx : ∀ W, Below w11.heap.size w11 W → W.cell? ⟨w6.heap.size, 0, none⟩ = some (.slice ax nx cx) ∧ W.cell? ⟨w6.heap.size + 1, 0, none⟩ = some (.slice ay ny cy) ∧ W.cell? ⟨w6.heap.size + 1 + 1, 0, none⟩ = some (.slice az nz cz) := fun W hW =>
          ⟨(hW.cell (p := ⟨w6.heap.size, 0, none⟩) (by show w6.heap.size < _; omega)).trans p1, (hW.cell (p := ⟨w6.heap.size + 1, 0, none⟩) (by show w6.heap.size + 1 < _; omega)).trans p2, (hW.cell (p := ⟨w6.heap.size + 1 + 1, 0, none⟩) ps).trans p3⟩
        clear p1 p2 p3
        have hS0 : Below w11.heap.size w11 w11.drew := (Below.refl _ _).drew
        refine wp_region_held_drew (S := fun W => Below w11.heap.size w11 W) (by kernel_rfl) hS0 (fun hS => ?_)
        refine' anyH_take1 (i := 0) (by kernel_rfl) (fun _ _ d _ _ h => by cases d <;> exact h) rfl (by rfl) _ (fun W hSw => _) (by kernel_rfl) (by kernel_rfl) hS _
        rotate_left
        · obtain ⟨x1, x2, x3⟩ := hbx W hSw
          go_simp
          try with_reducible rfl
        try simp only [Act.put, List.setIfInBounds_toArray, List.set_cons_zero, List.set_cons_succ]
        refine' anyH_take1 (i := 1) (by kernel_rfl) (fun _ _ d _ _ h => by cases d <;> exact h) rfl (by rfl) _ (fun W hSw => _) (by kernel_rfl) (by kernel_rfl) hS _
        rotate_left
        · obtain ⟨x1, x2, x3⟩ := hbx W hSw
          go_simp
          try with_reducible rfl
        try simp only [Act.put, List.setIfInBounds_toArray, List.set_cons_zero, List.set_cons_succ]
        refine' anyH_take1 (i := 2) (by kernel_rfl) (fun _ _ d _ _ h => by cases d <;> exact h) rfl (by rfl) _ (fun W hSw => _) (by kernel_rfl) (by kernel_rfl) hS _
        rotate_left
        · obtain ⟨x1, x2, x3⟩ := hbx W hSw
          go_simp
          try with_reducible rfl
        try simp only [Act.put, List.setIfInBounds_toArray, List.set_cons_zero, List.set_cons_succ]
        refine' anyH_take1 (i := 5) (by kernel_rfl) (fun _ _ d _ _ h => by cases d <;> exact h) rfl (by rfl) _ (fun W hSw => _) (by kernel_rfl) (by kernel_rfl) hS _
        rotate_left
        · obtain ⟨x1, x2, x3⟩ := hbx W hSw
          go_simp
          try with_reducible rfl
        try simp only [Act.put, List.setIfInBounds_toArray, List.set_cons_zero, List.set_cons_succ]
        refine' anyH_take1 (i := 6) (by kernel_rfl) (fun _ _ d _ _ h => by cases d <;> exact h) rfl (by rfl) _ (fun W hSw => _) (by kernel_rfl) (by kernel_rfl) hS _
        rotate_left
        · obtain ⟨x1, x2, x3⟩ := hbx W hSw
          go_simp
          try with_reducible rfl
        try simp only [Act.put, List.setIfInBounds_toArray, List.set_cons_zero, List.set_cons_succ]
        refine' anyH_take1 (i := 8) (by kernel_rfl) (fun _ _ d _ _ h => by cases d <;> exact h) rfl (by rfl) _ (fun W hSw => _) (by kernel_rfl) (by kernel_rfl) hS _
        rotate_left
        · obtain ⟨x1, x2, x3⟩ := hbx W hSw
          go_simp
          try with_reducible rfl
        try simp only [Act.put, List.setIfInBounds_toArray, List.set_cons_zero, List.set_cons_succ]
        refine anyH_8 (by kernel_rfl) (fun _ _ d _ _ h => by cases d <;> exact h) w11 L M N _ _ _ (Nat.le_of_ble_eq_true rfl) ?hready ?hstep ?hfin hS hS
        case hready =>
          intro s hs
          match s, hs with
          | (0, false, false), _ => exact ⟨by rw [show Region.ready .any _ (lst8 0 false false) = [3, 10, 11] by kernel_rfl]; simp, by decide⟩
          | (0, false, true), _ => exact ⟨by rw [show Region.ready .any _ (lst8 0 false true) = [3, 10] by kernel_rfl]; simp, by decide⟩
          | (0, true, false), _ => exact ⟨by rw [show Region.ready .any _ (lst8 0 true false) = [3, 11] by kernel_rfl]; simp, by decide⟩
          | (0, true, true), _ => exact ⟨by rw [show Region.ready .any _ (lst8 0 true true) = [3] by kernel_rfl]; simp, by decide⟩
          | (1, false, false), _ => exact ⟨by rw [show Region.ready .any _ (lst8 1 false false) = [4, 10, 11] by kernel_rfl]; simp, by decide⟩
          | (1, false, true), _ => exact ⟨by rw [show Region.ready .any _ (lst8 1 false true) = [4, 10] by kernel_rfl]; simp, by decide⟩
          | (1, true, false), _ => exact ⟨by rw [show Region.ready .any _ (lst8 1 true false) = [4, 11] by kernel_rfl]; simp, by decide⟩
          | (1, true, true), _ => exact ⟨by rw [show Region.ready .any _ (lst8 1 true true) = [4] by kernel_rfl]; simp, by decide⟩
          | (2, false, false), _ => exact ⟨by rw [show Region.ready .any _ (lst8 2 false false) = [7, 10, 11] by kernel_rfl]; simp, by decide⟩
          | (2, false, true), _ => exact ⟨by rw [show Region.ready .any _ (lst8 2 false true) = [7, 10] by kernel_rfl]; simp, by decide⟩
          | (2, true, false), _ => exact ⟨by rw [show Region.ready .any _ (lst8 2 true false) = [7, 11] by kernel_rfl]; simp, by decide⟩
          | (2, true, true), _ => exact ⟨by rw [show Region.ready .any _ (lst8 2 true true) = [7] by kernel_rfl]; simp, by decide⟩
          | (3, false, false), _ => exact ⟨by rw [show Region.ready .any _ (lst8 3 false false) = [9, 10, 11] by kernel_rfl]; simp, by decide⟩
          | (3, false, true), _ => exact ⟨by rw [show Region.ready .any _ (lst8 3 false true) = [9, 10] by kernel_rfl]; simp, by decide⟩
          | (3, true, false), _ => exact ⟨by rw [show Region.ready .any _ (lst8 3 true false) = [9, 11] by kernel_rfl]; simp, by decide⟩
          | (3, true, true), _ => exact ⟨by rw [show Region.ready .any _ (lst8 3 true true) = [9] by kernel_rfl]; simp, by decide⟩
          | (k + 4, false, false), _ => exact ⟨by rw [show Region.ready .any _ (lst8 (k + 4) false false) = [10, 11] by kernel_rfl]; simp, by simp [rk8]⟩
          | (k + 4, false, true), _ => exact ⟨by rw [show Region.ready .any _ (lst8 (k + 4) false true) = [10] by kernel_rfl]; simp, by simp [rk8]⟩
          | (k + 4, true, false), _ => exact ⟨by rw [show Region.ready .any _ (lst8 (k + 4) true false) = [11] by kernel_rfl]; simp, by simp [rk8]⟩
        case hstep =>
          intro s a' w hs hS hR j hj
          match s, hs with
          | (0, false, false), _ =>
            obtain ⟨s1, s2, s3, s4, bu, bv, rfl, hI⟩ := hR
            rw [show Region.ready .any _ (lst8 0 false false) = [3, 10, 11] by kernel_rfl] at hj
            simp only [List.mem_cons, List.not_mem_nil, or_false] at hj
            dsimp only [act8, calls8]
            try simp only [Act.put, List.setIfInBounds_toArray, List.set_cons_zero, List.set_cons_succ]
            rcases hj with rfl | rfl | rfl
            · refine eff_of rfl (by rfl) (fun K hK => ?_)
              go_simp
              refine (Over_v (hVy _ hI.below) (hVz _ hI.below) (by decide) (by decide)).mono ?_
              rintro e w' ⟨s, rfl, hs, hb⟩
              go_wp2_with fail
              refine hK.out _ _ (hI.next1 hs hb).below ⟨(1, false, false), rfl, by decide, s, s2, s3, s4, bu, bv, ?_, hI.next1 hs hb⟩
              rfl
            · refine eff_of rfl (by rfl) (fun K hK => ?_)
              go_simp
              go_wp2_with fail
              refine hK.out _ _ hI.nextU.below ⟨(0, true, false), rfl, by decide, s1, s2, s3, s4, w.heap.size, bv, ?_, hI.nextU⟩
              rfl
            · refine eff_of rfl (by rfl) (fun K hK => ?_)
              go_simp
              go_wp2_with fail
              refine hK.out _ _ hI.nextV.below ⟨(0, false, true), rfl, by decide, s1, s2, s3, s4, bu, w.heap.size, ?_, hI.nextV⟩
              rfl
          | (0, false, true), _ =>
            obtain ⟨s1, s2, s3, s4, bu, bv, rfl, hI⟩ := hR
            rw [show Region.ready .any _ (lst8 0 false true) = [3, 10] by kernel_rfl] at hj
            simp only [List.mem_cons, List.not_mem_nil, or_false] at hj
            dsimp only [act8, calls8]
            try simp only [Act.put, List.setIfInBounds_toArray, List.set_cons_zero, List.set_cons_succ]
            rcases hj with rfl | rfl
            · refine eff_of rfl (by rfl) (fun K hK => ?_)
              go_simp
              refine (Over_v (hVy _ hI.below) (hVz _ hI.below) (by decide) (by decide)).mono ?_
              rintro e w' ⟨s, rfl, hs, hb⟩
              go_wp2_with fail
              refine hK.out _ _ (hI.next1 hs hb).below ⟨(1, false, true), rfl, by decide, s, s2, s3, s4, bu, bv, ?_, hI.next1 hs hb⟩
              rfl
            · refine eff_of rfl (by rfl) (fun K hK => ?_)
              go_simp
              go_wp2_with fail
              refine hK.out _ _ hI.nextU.below ⟨(0, true, true), rfl, by decide, s1, s2, s3, s4, w.heap.size, bv, ?_, hI.nextU⟩
              rfl
          | (0, true, false), _ =>
            obtain ⟨s1, s2, s3, s4, bu, bv, rfl, hI⟩ := hR
            rw [show Region.ready .any _ (lst8 0 true false) = [3, 11] by kernel_rfl] at hj
            simp only [List.mem_cons, List.not_mem_nil, or_false] at hj
            dsimp only [act8, calls8]
            try simp only [Act.put, List.setIfInBounds_toArray, List.set_cons_zero, List.set_cons_succ]
            rcases hj with rfl | rfl
            · refine eff_of rfl (by rfl) (fun K hK => ?_)
              go_simp
              refine (Over_v (hVy _ hI.below) (hVz _ hI.below) (by decide) (by decide)).mono ?_
              rintro e w' ⟨s, rfl, hs, hb⟩
              go_wp2_with fail
              refine hK.out _ _ (hI.next1 hs hb).below ⟨(1, true, false), rfl, by decide, s, s2, s3, s4, bu, bv, ?_, hI.next1 hs hb⟩
              rfl
            · refine eff_of rfl (by rfl) (fun K hK => ?_)
              go_simp
              go_wp2_with fail
              refine hK.out _ _ hI.nextV.below ⟨(0, true, true), rfl, by decide, s1, s2, s3, s4, bu, w.heap.size, ?_, hI.nextV⟩
              rfl
          | (0, true, true), _ =>
            obtain ⟨s1, s2, s3, s4, bu, bv, rfl, hI⟩ := hR
            rw [show Region.ready .any _ (lst8 0 true true) = [3] by kernel_rfl] at hj
            simp only [List.mem_cons, List.not_mem_nil, or_false] at hj
            dsimp only [act8, calls8]
            try simp only [Act.put, List.setIfInBounds_toArray, List.set_cons_zero, List.set_cons_succ]
            subst hj
            refine eff_of rfl (by rfl) (fun K hK => ?_)
            go_simp
            refine (Over_v (hVy _ hI.below) (hVz _ hI.below) (by decide) (by decide)).mono ?_
            rintro e w' ⟨s, rfl, hs, hb⟩
            go_wp2_with fail
            refine hK.out _ _ (hI.next1 hs hb).below ⟨(1, true, true), rfl, by decide, s, s2, s3, s4, bu, bv, ?_, hI.next1 hs hb⟩
            rfl
          | (1, false, false), _ =>
            obtain ⟨s1, s2, s3, s4, bu, bv, rfl, hI⟩ := hR
            rw [show Region.ready .any _ (lst8 1 false false) = [4, 10, 11] by kernel_rfl] at hj
            simp only [List.mem_cons, List.not_mem_nil, or_false] at hj
            dsimp only [act8, calls8]
            try simp only [Act.put, List.setIfInBounds_toArray, List.set_cons_zero, List.set_cons_succ]
            rcases hj with rfl | rfl | rfl
            · refine eff_of rfl (by rfl) (fun K hK => ?_)
              go_simp
              refine (Over_v (hVx _ hI.below) (hI.e1 (by decide)) (by decide) (by decide)).mono ?_
              rintro e w' ⟨s, rfl, hs, hb⟩
              go_wp2_with fail
              refine hK.out _ _ (hI.next2 hs hb).below ⟨(2, false, false), rfl, by decide, s1, s, s3, s4, bu, bv, ?_, hI.next2 hs hb⟩
              rfl
            · refine eff_of rfl (by rfl) (fun K hK => ?_)
              go_simp
              go_wp2_with fail
              refine hK.out _ _ hI.nextU.below ⟨(1, true, false), rfl, by decide, s1, s2, s3, s4, w.heap.size, bv, ?_, hI.nextU⟩
              rfl
            · refine eff_of rfl (by rfl) (fun K hK => ?_)
              go_simp
              go_wp2_with fail
              refine hK.out _ _ hI.nextV.below ⟨(1, false, true), rfl, by decide, s1, s2, s3, s4, bu, w.heap.size, ?_, hI.nextV⟩
              rfl
          | (1, false, true), _ =>
            obtain ⟨s1, s2, s3, s4, bu, bv, rfl, hI⟩ := hR
            rw [show Region.ready .any _ (lst8 1 false true) = [4, 10] by kernel_rfl] at hj
            simp only [List.mem_cons, List.not_mem_nil, or_false] at hj
            dsimp only [act8, calls8]
            try simp only [Act.put, List.setIfInBounds_toArray, List.set_cons_zero, List.set_cons_succ]
            rcases hj with rfl | rfl
            · refine eff_of rfl (by rfl) (fun K hK => ?_)
              go_simp
              refine (Over_v (hVx _ hI.below) (hI.e1 (by decide)) (by decide) (by decide)).mono ?_
              rintro e w' ⟨s, rfl, hs, hb⟩
              go_wp2_with fail
              refine hK.out _ _ (hI.next2 hs hb).below ⟨(2, false, true), rfl, by decide, s1, s, s3, s4, bu, bv, ?_, hI.next2 hs hb⟩
              rfl
            · refine eff_of rfl (by rfl) (fun K hK => ?_)
              go_simp
              go_wp2_with fail
              refine hK.out _ _ hI.nextU.below ⟨(1, true, true), rfl, by decide, s1, s2, s3, s4, w.heap.size, bv, ?_, hI.nextU⟩
              rfl
          | (1, true, false), _ =>
            obtain ⟨s1, s2, s3, s4, bu, bv, rfl, hI⟩ := hR
            rw [show Region.ready .any _ (lst8 1 true false) = [4, 11] by kernel_rfl] at hj
            simp only [List.mem_cons, List.not_mem_nil, or_false] at hj
            dsimp only [act8, calls8]
            try simp only [Act.put, List.setIfInBounds_toArray, List.set_cons_zero, List.set_cons_succ]
            rcases hj with rfl | rfl
            · refine eff_of rfl (by rfl) (fun K hK => ?_)
              go_simp
              refine (Over_v (hVx _ hI.below) (hI.e1 (by decide)) (by decide) (by decide)).mono ?_
              rintro e w' ⟨s, rfl, hs, hb⟩
              go_wp2_with fail
              refine hK.out _ _ (hI.next2 hs hb).below ⟨(2, true, false), rfl, by decide, s1, s, s3, s4, bu, bv, ?_, hI.next2 hs hb⟩
              rfl
            · refine eff_of rfl (by rfl) (fun K hK => ?_)
              go_simp
              go_wp2_with fail
              refine hK.out _ _ hI.nextV.below ⟨(1, true, true), rfl, by decide, s1, s2, s3, s4, bu, w.heap.size, ?_, hI.nextV⟩
              rfl
          | (1, true, true), _ =>
            obtain ⟨s1, s2, s3, s4, bu, bv, rfl, hI⟩ := hR
            rw [show Region.ready .any _ (lst8 1 true true) = [4] by kernel_rfl] at hj
            simp only [List.mem_cons, List.not_mem_nil, or_false] at hj
            dsimp only [act8, calls8]
            try simp only [Act.put, List.setIfInBounds_toArray, List.set_cons_zero, List.set_cons_succ]
            subst hj
            refine eff_of rfl (by rfl) (fun K hK => ?_)
            go_simp
            refine (Over_v (hVx _ hI.below) (hI.e1 (by decide)) (by decide) (by decide)).mono ?_
            rintro e w' ⟨s, rfl, hs, hb⟩
            go_wp2_with fail
            refine hK.out _ _ (hI.next2 hs hb).below ⟨(2, true, true), rfl, by decide, s1, s, s3, s4, bu, bv, ?_, hI.next2 hs hb⟩
            rfl
          | (2, false, false), _ =>
            obtain ⟨s1, s2, s3, s4, bu, bv, rfl, hI⟩ := hR
            rw [show Region.ready .any _ (lst8 2 false false) = [7, 10, 11] by kernel_rfl] at hj
            simp only [List.mem_cons, List.not_mem_nil, or_false] at hj
            dsimp only [act8, calls8]
            try simp only [Act.put, List.setIfInBounds_toArray, List.set_cons_zero, List.set_cons_succ]
            rcases hj with rfl | rfl | rfl
            · refine eff_of rfl (by rfl) (fun K hK => ?_)
              go_simp
              refine (Over_v (hVx _ hI.below) (hVy _ hI.below) (by decide) (by decide)).mono ?_
              rintro e w' ⟨s, rfl, hs, hb⟩
              go_wp2_with fail
              refine hK.out _ _ (hI.next3 hs hb).below ⟨(3, false, false), rfl, by decide, s1, s2, s, s4, bu, bv, ?_, hI.next3 hs hb⟩
              rfl
            · refine eff_of rfl (by rfl) (fun K hK => ?_)
              go_simp
              go_wp2_with fail
              refine hK.out _ _ hI.nextU.below ⟨(2, true, false), rfl, by decide, s1, s2, s3, s4, w.heap.size, bv, ?_, hI.nextU⟩
              rfl
            · refine eff_of rfl (by rfl) (fun K hK => ?_)
              go_simp
              go_wp2_with fail
              refine hK.out _ _ hI.nextV.below ⟨(2, false, true), rfl, by decide, s1, s2, s3, s4, bu, w.heap.size, ?_, hI.nextV⟩
              rfl
          | (2, false, true), _ =>
            obtain ⟨s1, s2, s3, s4, bu, bv, rfl, hI⟩ := hR
            rw [show Region.ready .any _ (lst8 2 false true) = [7, 10] by kernel_rfl] at hj
            simp only [List.mem_cons, List.not_mem_nil, or_false] at hj
            dsimp only [act8, calls8]
            try simp only [Act.put, List.setIfInBounds_toArray, List.set_cons_zero, List.set_cons_succ]
            rcases hj with rfl | rfl
            · refine eff_of rfl (by rfl) (fun K hK => ?_)
              go_simp
              refine (Over_v (hVx _ hI.below) (hVy _ hI.below) (by decide) (by decide)).mono ?_
              rintro e w' ⟨s, rfl, hs, hb⟩
              go_wp2_with fail
              refine hK.out _ _ (hI.next3 hs hb).below ⟨(3, false, true), rfl, by decide, s1, s2, s, s4, bu, bv, ?_, hI.next3 hs hb⟩
              rfl
            · refine eff_of rfl (by rfl) (fun K hK => ?_)
              go_simp
              go_wp2_with fail
              refine hK.out _ _ hI.nextU.below ⟨(2, true, true), rfl, by decide, s1, s2, s3, s4, w.heap.size, bv, ?_, hI.nextU⟩
              rfl
          | (2, true, false), _ =>
            obtain ⟨s1, s2, s3, s4, bu, bv, rfl, hI⟩ := hR
            rw [show Region.ready .any _ (lst8 2 true false) = [7, 11] by kernel_rfl] at hj
            simp only [List.mem_cons, List.not_mem_nil, or_false] at hj
            dsimp only [act8, calls8]
            try simp only [Act.put, List.setIfInBounds_toArray, List.set_cons_zero, List.set_cons_succ]
            rcases hj with rfl | rfl
            · refine eff_of rfl (by rfl) (fun K hK => ?_)
              go_simp
              refine (Over_v (hVx _ hI.below) (hVy _ hI.below) (by decide) (by decide)).mono ?_
              rintro e w' ⟨s, rfl, hs, hb⟩
              go_wp2_with fail
              refine hK.out _ _ (hI.next3 hs hb).below ⟨(3, true, false), rfl, by decide, s1, s2, s, s4, bu, bv, ?_, hI.next3 hs hb⟩
              rfl
            · refine eff_of rfl (by rfl) (fun K hK => ?_)
              go_simp
              go_wp2_with fail
              refine hK.out _ _ hI.nextV.below ⟨(2, true, true), rfl, by decide, s1, s2, s3, s4, bu, w.heap.size, ?_, hI.nextV⟩
              rfl
          | (2, true, true), _ =>
            obtain ⟨s1, s2, s3, s4, bu, bv, rfl, hI⟩ := hR
            rw [show Region.ready .any _ (lst8 2 true true) = [7] by kernel_rfl] at hj
            simp only [List.mem_cons, List.not_mem_nil, or_false] at hj
            dsimp only [act8, calls8]
            try simp only [Act.put, List.setIfInBounds_toArray, List.set_cons_zero, List.set_cons_succ]
            subst hj
            refine eff_of rfl (by rfl) (fun K hK => ?_)
            go_simp
            refine (Over_v (hVx _ hI.below) (hVy _ hI.below) (by decide) (by decide)).mono ?_
            rintro e w' ⟨s, rfl, hs, hb⟩
            go_wp2_with fail
            refine hK.out _ _ (hI.next3 hs hb).below ⟨(3, true, true), rfl, by decide, s1, s2, s, s4, bu, bv, ?_, hI.next3 hs hb⟩
            rfl
          | (3, false, false), _ =>
            obtain ⟨s1, s2, s3, s4, bu, bv, rfl, hI⟩ := hR
            rw [show Region.ready .any _ (lst8 3 false false) = [9, 10, 11] by kernel_rfl] at hj
            simp only [List.mem_cons, List.not_mem_nil, or_false] at hj
            dsimp only [act8, calls8]
            try simp only [Act.put, List.setIfInBounds_toArray, List.set_cons_zero, List.set_cons_succ]
            rcases hj with rfl | rfl | rfl
            · refine eff_of rfl (by rfl) (fun K hK => ?_)
              go_simp
              refine (Over_v (hI.e3 (by decide)) (hVz _ hI.below) (by decide) (by decide)).mono ?_
              rintro e w' ⟨s, rfl, hs, hb⟩
              go_wp2_with fail
              refine hK.out _ _ (hI.next4 hs hb).below ⟨(4, false, false), rfl, by decide, s1, s2, s3, s, bu, bv, ?_, hI.next4 hs hb⟩
              rfl
            · refine eff_of rfl (by rfl) (fun K hK => ?_)
              go_simp
              go_wp2_with fail
              refine hK.out _ _ hI.nextU.below ⟨(3, true, false), rfl, by decide, s1, s2, s3, s4, w.heap.size, bv, ?_, hI.nextU⟩
              rfl
            · refine eff_of rfl (by rfl) (fun K hK => ?_)
              go_simp
              go_wp2_with fail
              refine hK.out _ _ hI.nextV.below ⟨(3, false, true), rfl, by decide, s1, s2, s3, s4, bu, w.heap.size, ?_, hI.nextV⟩
              rfl
          | (3, false, true), _ =>
            obtain ⟨s1, s2, s3, s4, bu, bv, rfl, hI⟩ := hR
            rw [show Region.ready .any _ (lst8 3 false true) = [9, 10] by kernel_rfl] at hj
            simp only [List.mem_cons, List.not_mem_nil, or_false] at hj
            dsimp only [act8, calls8]
            try simp only [Act.put, List.setIfInBounds_toArray, List.set_cons_zero, List.set_cons_succ]
            rcases hj with rfl | rfl
            · refine eff_of rfl (by rfl) (fun K hK => ?_)
              go_simp
              refine (Over_v (hI.e3 (by decide)) (hVz _ hI.below) (by decide) (by decide)).mono ?_
              rintro e w' ⟨s, rfl, hs, hb⟩
              go_wp2_with fail
              refine hK.out _ _ (hI.next4 hs hb).below ⟨(4, false, true), rfl, by decide, s1, s2, s3, s, bu, bv, ?_, hI.next4 hs hb⟩
              rfl
            · refine eff_of rfl (by rfl) (fun K hK => ?_)
              go_simp
              go_wp2_with fail
              refine hK.out _ _ hI.nextU.below ⟨(3, true, true), rfl, by decide, s1, s2, s3, s4, w.heap.size, bv, ?_, hI.nextU⟩
              rfl
          | (3, true, false), _ =>
            obtain ⟨s1, s2, s3, s4, bu, bv, rfl, hI⟩ := hR
            rw [show Region.ready .any _ (lst8 3 true false) = [9, 11] by kernel_rfl] at hj
            simp only [List.mem_cons, List.not_mem_nil, or_false] at hj
            dsimp only [act8, calls8]
            try simp only [Act.put, List.setIfInBounds_toArray, List.set_cons_zero, List.set_cons_succ]
            rcases hj with rfl | rfl
            · refine eff_of rfl (by rfl) (fun K hK => ?_)
              go_simp
              refine (Over_v (hI.e3 (by decide)) (hVz _ hI.below) (by decide) (by decide)).mono ?_
              rintro e w' ⟨s, rfl, hs, hb⟩
              go_wp2_with fail
              refine hK.out _ _ (hI.next4 hs hb).below ⟨(4, true, false), rfl, by decide, s1, s2, s3, s, bu, bv, ?_, hI.next4 hs hb⟩
              rfl
            · refine eff_of rfl (by rfl) (fun K hK => ?_)
              go_simp
              go_wp2_with fail
              refine hK.out _ _ hI.nextV.below ⟨(3, true, true), rfl, by decide, s1, s2, s3, s4, bu, w.heap.size, ?_, hI.nextV⟩
              rfl
          | (3, true, true), _ =>
            obtain ⟨s1, s2, s3, s4, bu, bv, rfl, hI⟩ := hR
            rw [show Region.ready .any _ (lst8 3 true true) = [9] by kernel_rfl] at hj
            simp only [List.mem_cons, List.not_mem_nil, or_false] at hj
            dsimp only [act8, calls8]
            try simp only [Act.put, List.setIfInBounds_toArray, List.set_cons_zero, List.set_cons_succ]
            subst hj
            refine eff_of rfl (by rfl) (fun K hK => ?_)
            go_simp
            refine (Over_v (hI.e3 (by decide)) (hVz _ hI.below) (by decide) (by decide)).mono ?_
            rintro e w' ⟨s, rfl, hs, hb⟩
            go_wp2_with fail
            refine hK.out _ _ (hI.next4 hs hb).below ⟨(4, true, true), rfl, by decide, s1, s2, s3, s, bu, bv, ?_, hI.next4 hs hb⟩
            rfl
          | (k + 4, false, false), _ =>
            obtain ⟨s1, s2, s3, s4, bu, bv, rfl, hI⟩ := hR
            rw [show Region.ready .any _ (lst8 (k + 4) false false) = [10, 11] by kernel_rfl] at hj
            simp only [List.mem_cons, List.not_mem_nil, or_false] at hj
            dsimp only [act8, calls8]
            try simp only [Act.put, List.setIfInBounds_toArray, List.set_cons_zero, List.set_cons_succ]
            rcases hj with rfl | rfl
            · refine eff_of rfl (by rfl) (fun K hK => ?_)
              go_simp
              go_wp2_with fail
              refine hK.out _ _ hI.nextU.below ⟨(k + 4, true, false), rfl, by simp [rk8], s1, s2, s3, s4, w.heap.size, bv, ?_, hI.nextU⟩
              rfl
            · refine eff_of rfl (by rfl) (fun K hK => ?_)
              go_simp
              go_wp2_with fail
              refine hK.out _ _ hI.nextV.below ⟨(k + 4, false, true), rfl, by simp [rk8], s1, s2, s3, s4, bu, w.heap.size, ?_, hI.nextV⟩
              rfl
          | (k + 4, false, true), _ =>
            obtain ⟨s1, s2, s3, s4, bu, bv, rfl, hI⟩ := hR
            rw [show Region.ready .any _ (lst8 (k + 4) false true) = [10] by kernel_rfl] at hj
            simp only [List.mem_cons, List.not_mem_nil, or_false] at hj
            dsimp only [act8, calls8]
            try simp only [Act.put, List.setIfInBounds_toArray, List.set_cons_zero, List.set_cons_succ]
            subst hj
            refine eff_of rfl (by rfl) (fun K hK => ?_)
            go_simp
            go_wp2_with fail
            refine hK.out _ _ hI.nextU.below ⟨(k + 4, true, true), rfl, by simp [rk8], s1, s2, s3, s4, w.heap.size, bv, ?_, hI.nextU⟩
            rfl
          | (k + 4, true, false), _ =>
            obtain ⟨s1, s2, s3, s4, bu, bv, rfl, hI⟩ := hR
            rw [show Region.ready .any _ (lst8 (k + 4) true false) = [11] by kernel_rfl] at hj
            simp only [List.mem_cons, List.not_mem_nil, or_false] at hj
            dsimp only [act8, calls8]
            try simp only [Act.put, List.setIfInBounds_toArray, List.set_cons_zero, List.set_cons_succ]
            subst hj
            refine eff_of rfl (by rfl) (fun K hK => ?_)
            go_simp
            go_wp2_with fail
            refine hK.out _ _ hI.nextV.below ⟨(k + 4, true, true), rfl, by simp [rk8], s1, s2, s3, s4, bu, w.heap.size, ?_, hI.nextV⟩
            rfl
        case hfin =>
          intro s a' w hs hS hR
          match s, hs with
          | (k + 4, true, true), _ =>
            obtain ⟨s1, s2, s3, s4, bu, bv, rfl, hI⟩ := hR
            refine ⟨by kernel_rfl, ?_⟩
            have hx := hI.xu rfl
            have hy := hI.xv rfl
            have hne := hI.ne rfl rfl
            have E2 := hI.e2 (by omega)
            have E4 := hI.e4 (by omega)
            have HB := hI.below
            obtain ⟨a2, n2, r2, rfl⟩ := E2.slice
            obtain ⟨a4, n4, r4, rfl⟩ := E4.slice
            clear hI hs hS
            have cu : w.cell? ⟨bu, 0, none⟩ = some (.slice none 0 0) := by rw [cell_of_row _ bu 0 _ _ (0, 0) hx.2]; rfl
            have fu := frozen_of_row _ bu 0 _ _ hx.2
            obtain ⟨W1, hW1⟩ : ∃ W1, W1 = w.setCell ⟨bu, 0, none⟩ (.slice a2 n2 r2) := ⟨_, rfl⟩
            have B1' : Below w11.heap.size w11 W1 := by rw [hW1]; exact HB.setCell hx.1 _
            have hv1 : W1.heap[bv]? = some (.cells #[.slice none 0 0] 27 (0, 0)) := by rw [hW1, Below.heap_setCell _ _ _ _ (by show bv ≠ bu; omega)]; exact hy.2
            have cu1 : W1.cell? ⟨bu, 0, none⟩ = some (.slice a2 n2 r2) := by rw [hW1, cell_of_row _ bu 0 _ _ (0, 0) (heap_setCell_same w bu 0 _ _ (.slice a2 n2 r2) hx.2)]; rfl
            have cv1 : W1.cell? ⟨bv, 0, none⟩ = some (.slice none 0 0) := by rw [cell_of_row _ bv 0 _ _ (0, 0) hv1]; rfl
            have fv1 := frozen_of_row _ bv 0 _ _ hv1
            have T2 : TBV (overL L (overL M N)) 1052672 (.slice a2 n2 r2) W1 := by rw [hW1]; exact E2.box hx.2 ⟨_, _, _, rfl⟩ _
            have T4 : TBV (overL (overL L M) N) 2101248 (.slice a4 n4 r4) W1 := by rw [hW1]; exact E4.box hx.2 ⟨_, _, _, rfl⟩ _
            have z1 : W1.heap.size = w.heap.size := by rw [hW1]; simp
            have lu := hx.lt
            have EW1 := Lib.hid hW1
            have lv := hy.lt
            obtain ⟨W9, hW9⟩ : ∃ W9, W9 = W1.setCell ⟨bv, 0, none⟩ (.slice a4 n4 r4) := ⟨_, rfl⟩
            have B9' : Below w11.heap.size w11 W9 := by rw [hW9]; exact B1'.setCell hy.1 _
            have U9 : TBV (overL L (overL M N)) 1052672 (.slice a2 n2 r2) W9 := by rw [hW9]; exact T2.box hv1 ⟨_, _, _, rfl⟩ _
            have V9 : TBV (overL (overL L M) N) 2101248 (.slice a4 n4 r4) W9 := by rw [hW9]; exact T4.box hv1 ⟨_, _, _, rfl⟩ _
            have cu9 : W9.cell? ⟨bu, 0, none⟩ = some (.slice a2 n2 r2) := by rw [hW9, World.cell?_setCell_other _ _ _ _ (fun e => by injection e; omega)]; exact cu1
            have cv9 : W9.cell? ⟨bv, 0, none⟩ = some (.slice a4 n4 r4) := by rw [hW9, cell_of_row _ bv 0 _ _ (0, 0) (heap_setCell_same W1 bv 0 _ _ (.slice a4 n4 r4) hv1)]; rfl
            have z9 : W9.heap.size = W1.heap.size := by rw [hW9]; simp
            have EW9 := Lib.hid hW9
            clear hW1 hW9
            have U9 := Lib.hid U9
            have V9 := Lib.hid V9
            dsimp only [act8, calls8]
            try simp only [Act.put, List.setIfInBounds_toArray, List.set_cons_zero, List.set_cons_succ]
            refine lin_eff rfl (by rfl) (fun K hK => ?_)
            go_simp
            go_wp2_with fail
            rw [← EW1.out]
            refine hK.out _ _ B1' ?_
            clear hK K
            try simp only [Act.put, List.setIfInBounds_toArray, List.set_cons_zero, List.set_cons_succ]
            refine lin_eff rfl (by rfl) (fun K hK => ?_)
            go_simp
            go_wp2_with fail
            rw [← EW9.out]
            refine hK.out _ _ B9' ?_
            clear hK K
            try simp only [Act.put, List.setIfInBounds_toArray, List.set_cons_zero, List.set_cons_succ]
            refine lin_nil ?_
            have hassoc := over_assoc L M N HX11.out.srt HY11.out.srt HZ11.out.srt
            have V9 := V9.out
            rw [hassoc] at V9
            have V9 := Lib.hid V9
            have hwl : (overL L (overL M N)).length ≤ 4194304 := by have := overL_len L (overL M N); have := overL_len M N; omega
            have HO9 := Lib.hid ((HO11.out.below B9').more B9'.size)
            have HL9 := Lib.hid ((HL11.out.below B9').more B9'.size)
            have HM9 := Lib.hid ((HM11.out.below B9').more B9'.size)
            have HW9 := Lib.hid (HW11.out.trans (B9'.mono HW11.out.size))
            obtain ⟨k1, k2, _⟩ := hbx W9 B9'
            have hX9 : ∀ W, Below W9.heap.size W9 W → TBV L 4096 (.slice ax nx cx) W := fun W h => (hVx W9 B9').below h
            have hY9 : ∀ W, Below W9.heap.size W9 W → TBV M 4096 (.slice ay ny cy) W := fun W h => (hVy W9 B9').below h
            have hz9 := B9'.size
            have hk9 : ∀ W, Below W9.heap.size W9 W → W.cell? ⟨bu, 0, none⟩ = some (.slice a2 n2 r2) ∧ W.cell? ⟨bv, 0, none⟩ = some (.slice a4 n4 r4) ∧ W.cell? ⟨w6.heap.size, 0, none⟩ = some (.slice ax nx cx) ∧ W.cell? ⟨w6.heap.size + 1, 0, none⟩ = some (.slice ay ny cy) := fun W h =>
              ⟨(h.cell (p := ⟨bu, 0, none⟩) (by show bu < _; omega)).trans cu9, (h.cell (p := ⟨bv, 0, none⟩) (by show bv < _; omega)).trans cv9, (h.cell (p := ⟨w6.heap.size, 0, none⟩) (by show w6.heap.size < _; omega)).trans k1, (h.cell (p := ⟨w6.heap.size + 1, 0, none⟩) (by show w6.heap.size + 1 < _; omega)).trans k2⟩
            clear hassoc EW1 EW9 B1' hv1 cu1 cv1 fv1 T2 T4 cu fu E2 E4 hx hy k1 k2 z1 z9 cu9 cv9 hbx hVx hVy hVz HB B9' HO11 HL11 HM11 HX11 HY11 HZ11
            generalize overL L (overL M N) = Wt at *
            have hU9 : ∀ W, Below W9.heap.size W9 W → TBV Wt 1052672 (.slice a2 n2 r2) W := fun W h => U9.out.below h
            have hV9 : ∀ W, Below W9.heap.size W9 W → TBV Wt 2101248 (.slice a4 n4 r4) W := fun W h => V9.out.below h
            clear U9 V9
            obtain ⟨k1, k2, k3, k4⟩ := hk9 W9 (Below.refl _ _)
            rcases find_both Wt (fun x => decide ((x.1 : Int) = code)) with ⟨i, x, hx, hf0, hf⟩ | ⟨hf0, hf⟩
            · obtain ⟨ad, rfl, hadb, z0, z1, _⟩ := HO9.out.pair hx
              have hge : (0 : Int) ≤ (i : Int) := by omega
              have hiM : i < Wt.length := (List.getElem?_eq_some_iff.1 hx).1
              have hkz : ∀ W, Below W9.heap.size W9 W → W.cell? ⟨(ad.add (i * 2)).block, (ad.add (i * 2)).off + 1, none⟩ = some (.int .i32 x.2) := fun W hW => (hW.cell (p := ⟨(ad.add (i * 2)).block, (ad.add (i * 2)).off + 1, none⟩) (by show (ad.add (i * 2)).block < _; rw [block_of_add]; exact hadb)).trans z1
              cases hr : Wt.find? fun x => x.2 == p with
              | some y =>
                have hFw := fun (W : World) (h : Below W9.heap.size W9 W) => fwv_some (code := code) hf (hU9 W h) (by decide)
                have hFn := fun (W : World) (h : Below W9.heap.size W9 W) => fn_some (code := code) hf0 (by omega) (some ad) d5 W ((HO9.out.below h).more h.size)
                have hRv := fun (W : World) (h : Below W9.heap.size W9 W) => rvv_some (p := p) hp hr (hV9 W h) (by decide)
                have hRr := fun (W : World) (h : Below W9.heap.size W9 W) => rr_some (p := p) hr (by omega) (some ad) d5 W ((HO9.out.below h).more h.size)
                have hge2 : (0 : Int) ≤ (y.1 : Int) := by omega
                have hI1 := Is_v (c2 := d5) (hU9 _ (Below.refl _ _)) (by decide) HO9.out
                have hI2 := fun (W : World) (h : Below W9.heap.size W9 W) => Is_v (c2 := d5) (hV9 W h) (by decide) ((HO9.out.below h).more h.size)
                have hI3 := fun (W : World) (h : Below W9.heap.size W9 W) => Is_v (c2 := d1) (hX9 W h) (by decide) ((HL9.out.below h).more h.size)
                have hI4 := fun (W : World) (h : Below W9.heap.size W9 W) => Is_v (c2 := d2) (hY9 W h) (by decide) ((HM9.out.below h).more h.size)
                clear hf hf0 hr hx z0 z1
                go_wp2_with (first
                  | (go_at_call 17; first
                    | (clear k1 k2 k3 k4; refine (hI1).mono ?_; rintro e t1 ⟨rfl, hb1⟩; have HT1 := Lib.hid hb1; clear hb1; obtain ⟨k1, k2, k3, k4⟩ := hk9 _ HT1.out; clear hI1)
                    | (clear k1 k2 k3 k4; refine (hI2 _ HT1.out).mono ?_; rintro e t2 ⟨rfl, hb2⟩; have HT2 := Lib.hid (HT1.out.trans (hb2.mono HT1.out.size)); clear hb2; obtain ⟨k1, k2, k3, k4⟩ := hk9 _ HT2.out; clear hI2)
                    | (clear k1 k2 k3 k4; refine (hI3 _ HT2.out).mono ?_; rintro e t3 ⟨rfl, hb3⟩; have HT3 := Lib.hid (HT2.out.trans (hb3.mono HT2.out.size)); clear hb3; obtain ⟨k1, k2, k3, k4⟩ := hk9 _ HT3.out; clear hI3)
                    | (clear k1 k2 k3 k4; refine (hI4 _ HT3.out).mono ?_; rintro e t4 ⟨rfl, hb4⟩; have HT4 := Lib.hid (HT3.out.trans (hb4.mono HT3.out.size)); clear hb4; obtain ⟨k1, k2, k3, k4⟩ := hk9 _ HT4.out; clear hI4))
                  | (go_at_call 12; clear k1 k2 k3 k4; refine (hFw _ HT4.out).mono ?_; rintro e t5 ⟨rfl, hb5⟩; have HT5 := Lib.hid (HT4.out.trans (hb5.mono HT4.out.size)); clear hb5; obtain ⟨k1, k2, k3, k4⟩ := hk9 _ HT5.out)
                  | (go_at_call 13; clear k1 k2 k3 k4; refine (hFn _ HT5.out).mono ?_; rintro e t6 ⟨rfl, hb6⟩; have HT6 := Lib.hid (HT5.out.trans (hb6.mono HT5.out.size)); clear hb6; obtain ⟨k1, k2, k3, k4⟩ := hk9 _ HT6.out)
                  | (go_at_call 14; clear k1 k2 k3 k4; refine (hRv _ HT6.out).mono ?_; rintro e t7 ⟨rfl, hb7⟩; have HT7 := Lib.hid (HT6.out.trans (hb7.mono HT6.out.size)); clear hb7; obtain ⟨k1, k2, k3, k4⟩ := hk9 _ HT7.out)
                  | (go_at_call 15; clear k1 k2 k3 k4; refine (hRr _ HT7.out).mono ?_; rintro e t8 ⟨rfl, hb8⟩; have HT8 := Lib.hid (HT7.out.trans (hb8.mono HT7.out.size)); clear hb8; obtain ⟨k1, k2, k3, k4⟩ := hk9 _ HT8.out)
                  | (go_at_call 8; refine (haw _ (HW9.out.trans (HT8.out.mono HW9.out.size))).mono ?_; rintro e t9 ⟨rfl, hb9⟩; have HT9 := Lib.hid (HT8.out.trans (hb9.mono HT8.out.size)); clear hb9; have z9 := hkz _ HT9.out))
                exact HP.out _ (HW9.out.trans (HT9.out.mono HW9.out.size))
              | none =>
                have hFw := fun (W : World) (h : Below W9.heap.size W9 W) => fwv_some (code := code) hf (hU9 W h) (by decide)
                have hFn := fun (W : World) (h : Below W9.heap.size W9 W) => fn_some (code := code) hf0 (by omega) (some ad) d5 W ((HO9.out.below h).more h.size)
                have hRv := fun (W : World) (h : Below W9.heap.size W9 W) => rvv_none (p := p) hp hr (hV9 W h) (by decide)
                have hRr := fun (W : World) (h : Below W9.heap.size W9 W) => rr_none (p := p) hr (by omega) (some ad) d5 W ((HO9.out.below h).more h.size)
                have hI1 := Is_v (c2 := d5) (hU9 _ (Below.refl _ _)) (by decide) HO9.out
                have hI2 := fun (W : World) (h : Below W9.heap.size W9 W) => Is_v (c2 := d5) (hV9 W h) (by decide) ((HO9.out.below h).more h.size)
                have hI3 := fun (W : World) (h : Below W9.heap.size W9 W) => Is_v (c2 := d1) (hX9 W h) (by decide) ((HL9.out.below h).more h.size)
                have hI4 := fun (W : World) (h : Below W9.heap.size W9 W) => Is_v (c2 := d2) (hY9 W h) (by decide) ((HM9.out.below h).more h.size)
                clear hf hf0 hr hx z0 z1
                go_wp2_with (first
                  | (go_at_call 17; first
                    | (clear k1 k2 k3 k4; refine (hI1).mono ?_; rintro e t1 ⟨rfl, hb1⟩; have HT1 := Lib.hid hb1; clear hb1; obtain ⟨k1, k2, k3, k4⟩ := hk9 _ HT1.out; clear hI1)
                    | (clear k1 k2 k3 k4; refine (hI2 _ HT1.out).mono ?_; rintro e t2 ⟨rfl, hb2⟩; have HT2 := Lib.hid (HT1.out.trans (hb2.mono HT1.out.size)); clear hb2; obtain ⟨k1, k2, k3, k4⟩ := hk9 _ HT2.out; clear hI2)
                    | (clear k1 k2 k3 k4; refine (hI3 _ HT2.out).mono ?_; rintro e t3 ⟨rfl, hb3⟩; have HT3 := Lib.hid (HT2.out.trans (hb3.mono HT2.out.size)); clear hb3; obtain ⟨k1, k2, k3, k4⟩ := hk9 _ HT3.out; clear hI3)
                    | (clear k1 k2 k3 k4; refine (hI4 _ HT3.out).mono ?_; rintro e t4 ⟨rfl, hb4⟩; have HT4 := Lib.hid (HT3.out.trans (hb4.mono HT3.out.size)); clear hb4; obtain ⟨k1, k2, k3, k4⟩ := hk9 _ HT4.out; clear hI4))
                  | (go_at_call 12; clear k1 k2 k3 k4; refine (hFw _ HT4.out).mono ?_; rintro e t5 ⟨rfl, hb5⟩; have HT5 := Lib.hid (HT4.out.trans (hb5.mono HT4.out.size)); clear hb5; obtain ⟨k1, k2, k3, k4⟩ := hk9 _ HT5.out)
                  | (go_at_call 13; clear k1 k2 k3 k4; refine (hFn _ HT5.out).mono ?_; rintro e t6 ⟨rfl, hb6⟩; have HT6 := Lib.hid (HT5.out.trans (hb6.mono HT5.out.size)); clear hb6; obtain ⟨k1, k2, k3, k4⟩ := hk9 _ HT6.out)
                  | (go_at_call 14; clear k1 k2 k3 k4; refine (hRv _ HT6.out).mono ?_; rintro e t7 ⟨rfl, hb7⟩; have HT7 := Lib.hid (HT6.out.trans (hb7.mono HT6.out.size)); clear hb7; obtain ⟨k1, k2, k3, k4⟩ := hk9 _ HT7.out)
                  | (go_at_call 15; clear k1 k2 k3 k4; refine (hRr _ HT7.out).mono ?_; rintro e t8 ⟨rfl, hb8⟩; have HT8 := Lib.hid (HT7.out.trans (hb8.mono HT7.out.size)); clear hb8; obtain ⟨k1, k2, k3, k4⟩ := hk9 _ HT8.out)
                  | (go_at_call 8; refine (haw _ (HW9.out.trans (HT8.out.mono HW9.out.size))).mono ?_; rintro e t9 ⟨rfl, hb9⟩; have HT9 := Lib.hid (HT8.out.trans (hb9.mono HT8.out.size)); clear hb9; have z9 := hkz _ HT9.out))
                exact HP.out _ (HW9.out.trans (HT9.out.mono HW9.out.size))
            · skip
              cases hr : Wt.find? fun x => x.2 == p with
              | some y =>
                have hFw := fun (W : World) (h : Below W9.heap.size W9 W) => fwv_none (code := code) hf (hU9 W h) (by decide)
                have hFn := fun (W : World) (h : Below W9.heap.size W9 W) => fn_none (code := code) hf0 (by omega) B5 d5 W ((HO9.out.below h).more h.size)
                have hRv := fun (W : World) (h : Below W9.heap.size W9 W) => rvv_some (p := p) hp hr (hV9 W h) (by decide)
                have hRr := fun (W : World) (h : Below W9.heap.size W9 W) => rr_some (p := p) hr (by omega) B5 d5 W ((HO9.out.below h).more h.size)
                have hge2 : (0 : Int) ≤ (y.1 : Int) := by omega
                have hI1 := Is_v (c2 := d5) (hU9 _ (Below.refl _ _)) (by decide) HO9.out
                have hI2 := fun (W : World) (h : Below W9.heap.size W9 W) => Is_v (c2 := d5) (hV9 W h) (by decide) ((HO9.out.below h).more h.size)
                have hI3 := fun (W : World) (h : Below W9.heap.size W9 W) => Is_v (c2 := d1) (hX9 W h) (by decide) ((HL9.out.below h).more h.size)
                have hI4 := fun (W : World) (h : Below W9.heap.size W9 W) => Is_v (c2 := d2) (hY9 W h) (by decide) ((HM9.out.below h).more h.size)
                clear hf hf0 hr
                go_wp2_with (first
                  | (go_at_call 17; first
                    | (clear k1 k2 k3 k4; refine (hI1).mono ?_; rintro e t1 ⟨rfl, hb1⟩; have HT1 := Lib.hid hb1; clear hb1; obtain ⟨k1, k2, k3, k4⟩ := hk9 _ HT1.out; clear hI1)
                    | (clear k1 k2 k3 k4; refine (hI2 _ HT1.out).mono ?_; rintro e t2 ⟨rfl, hb2⟩; have HT2 := Lib.hid (HT1.out.trans (hb2.mono HT1.out.size)); clear hb2; obtain ⟨k1, k2, k3, k4⟩ := hk9 _ HT2.out; clear hI2)
                    | (clear k1 k2 k3 k4; refine (hI3 _ HT2.out).mono ?_; rintro e t3 ⟨rfl, hb3⟩; have HT3 := Lib.hid (HT2.out.trans (hb3.mono HT2.out.size)); clear hb3; obtain ⟨k1, k2, k3, k4⟩ := hk9 _ HT3.out; clear hI3)
                    | (clear k1 k2 k3 k4; refine (hI4 _ HT3.out).mono ?_; rintro e t4 ⟨rfl, hb4⟩; have HT4 := Lib.hid (HT3.out.trans (hb4.mono HT3.out.size)); clear hb4; obtain ⟨k1, k2, k3, k4⟩ := hk9 _ HT4.out; clear hI4))
                  | (go_at_call 12; clear k1 k2 k3 k4; refine (hFw _ HT4.out).mono ?_; rintro e t5 ⟨rfl, hb5⟩; have HT5 := Lib.hid (HT4.out.trans (hb5.mono HT4.out.size)); clear hb5; obtain ⟨k1, k2, k3, k4⟩ := hk9 _ HT5.out)
                  | (go_at_call 13; clear k1 k2 k3 k4; refine (hFn _ HT5.out).mono ?_; rintro e t6 ⟨rfl, hb6⟩; have HT6 := Lib.hid (HT5.out.trans (hb6.mono HT5.out.size)); clear hb6; obtain ⟨k1, k2, k3, k4⟩ := hk9 _ HT6.out)
                  | (go_at_call 14; clear k1 k2 k3 k4; refine (hRv _ HT6.out).mono ?_; rintro e t7 ⟨rfl, hb7⟩; have HT7 := Lib.hid (HT6.out.trans (hb7.mono HT6.out.size)); clear hb7; obtain ⟨k1, k2, k3, k4⟩ := hk9 _ HT7.out)
                  | (go_at_call 15; clear k1 k2 k3 k4; refine (hRr _ HT7.out).mono ?_; rintro e t8 ⟨rfl, hb8⟩; have HT8 := Lib.hid (HT7.out.trans (hb8.mono HT7.out.size)); clear hb8; obtain ⟨k1, k2, k3, k4⟩ := hk9 _ HT8.out)
                  | (go_at_call 8; refine (haw _ (HW9.out.trans (HT8.out.mono HW9.out.size))).mono ?_; rintro e t9 ⟨rfl, hb9⟩; have HT9 := Lib.hid (HT8.out.trans (hb9.mono HT8.out.size)); clear hb9))
                exact HP.out _ (HW9.out.trans (HT9.out.mono HW9.out.size))
              | none =>
                have hFw := fun (W : World) (h : Below W9.heap.size W9 W) => fwv_none (code := code) hf (hU9 W h) (by decide)
                have hFn := fun (W : World) (h : Below W9.heap.size W9 W) => fn_none (code := code) hf0 (by omega) B5 d5 W ((HO9.out.below h).more h.size)
                have hRv := fun (W : World) (h : Below W9.heap.size W9 W) => rvv_none (p := p) hp hr (hV9 W h) (by decide)
                have hRr := fun (W : World) (h : Below W9.heap.size W9 W) => rr_none (p := p) hr (by omega) B5 d5 W ((HO9.out.below h).more h.size)
                have hI1 := Is_v (c2 := d5) (hU9 _ (Below.refl _ _)) (by decide) HO9.out
                have hI2 := fun (W : World) (h : Below W9.heap.size W9 W) => Is_v (c2 := d5) (hV9 W h) (by decide) ((HO9.out.below h).more h.size)
                have hI3 := fun (W : World) (h : Below W9.heap.size W9 W) => Is_v (c2 := d1) (hX9 W h) (by decide) ((HL9.out.below h).more h.size)
                have hI4 := fun (W : World) (h : Below W9.heap.size W9 W) => Is_v (c2 := d2) (hY9 W h) (by decide) ((HM9.out.below h).more h.size)
                clear hf hf0 hr
                go_wp2_with (first
                  | (go_at_call 17; first
                    | (clear k1 k2 k3 k4; refine (hI1).mono ?_; rintro e t1 ⟨rfl, hb1⟩; have HT1 := Lib.hid hb1; clear hb1; obtain ⟨k1, k2, k3, k4⟩ := hk9 _ HT1.out; clear hI1)
                    | (clear k1 k2 k3 k4; refine (hI2 _ HT1.out).mono ?_; rintro e t2 ⟨rfl, hb2⟩; have HT2 := Lib.hid (HT1.out.trans (hb2.mono HT1.out.size)); clear hb2; obtain ⟨k1, k2, k3, k4⟩ := hk9 _ HT2.out; clear hI2)
                    | (clear k1 k2 k3 k4; refine (hI3 _ HT2.out).mono ?_; rintro e t3 ⟨rfl, hb3⟩; have HT3 := Lib.hid (HT2.out.trans (hb3.mono HT2.out.size)); clear hb3; obtain ⟨k1, k2, k3, k4⟩ := hk9 _ HT3.out; clear hI3)
                    | (clear k1 k2 k3 k4; refine (hI4 _ HT3.out).mono ?_; rintro e t4 ⟨rfl, hb4⟩; have HT4 := Lib.hid (HT3.out.trans (hb4.mono HT3.out.size)); clear hb4; obtain ⟨k1, k2, k3, k4⟩ := hk9 _ HT4.out; clear hI4))
                  | (go_at_call 12; clear k1 k2 k3 k4; refine (hFw _ HT4.out).mono ?_; rintro e t5 ⟨rfl, hb5⟩; have HT5 := Lib.hid (HT4.out.trans (hb5.mono HT4.out.size)); clear hb5; obtain ⟨k1, k2, k3, k4⟩ := hk9 _ HT5.out)
                  | (go_at_call 13; clear k1 k2 k3 k4; refine (hFn _ HT5.out).mono ?_; rintro e t6 ⟨rfl, hb6⟩; have HT6 := Lib.hid (HT5.out.trans (hb6.mono HT5.out.size)); clear hb6; obtain ⟨k1, k2, k3, k4⟩ := hk9 _ HT6.out)
                  | (go_at_call 14; clear k1 k2 k3 k4; refine (hRv _ HT6.out).mono ?_; rintro e t7 ⟨rfl, hb7⟩; have HT7 := Lib.hid (HT6.out.trans (hb7.mono HT6.out.size)); clear hb7; obtain ⟨k1, k2, k3, k4⟩ := hk9 _ HT7.out)
                  | (go_at_call 15; clear k1 k2 k3 k4; refine (hRr _ HT7.out).mono ?_; rintro e t8 ⟨rfl, hb8⟩; have HT8 := Lib.hid (HT7.out.trans (hb8.mono HT7.out.size)); clear hb8; obtain ⟨k1, k2, k3, k4⟩ := hk9 _ HT8.out)
                  | (go_at_call 8; refine (haw _ (HW9.out.trans (HT8.out.mono HW9.out.size))).mono ?_; rintro e t9 ⟨rfl, hb9⟩; have HT9 := Lib.hid (HT8.out.trans (hb9.mono HT8.out.size)); clear hb9))
                exact HP.out _ (HW9.out.trans (HT9.out.mono HW9.out.size))
      · have hLt3 := fun W hb => law_dark (c := c3) hL3 h3 W hb
        go_enter Tryd.func5, Tryd.ntmps5
        go_wp2_with (first
          | (go_at_call 7; first
            | (refine hLt1.mono ?_; rintro e w1 ⟨rfl, hb1⟩; have HB1 := Lib.hid hb1; clear hLt1 hb1)
            | (refine (hLt2 _ HB1.out).mono ?_; rintro e w2 ⟨rfl, hb2⟩; have HB2 := Lib.hid (HB1.out.trans (hb2.mono HB1.out.size)); clear hLt2 hb2)
            | (refine (hLt3 _ HB2.out).mono ?_; rintro e w3 ⟨rfl, hb3⟩; have HB3 := Lib.hid (HB2.out.trans (hb3.mono HB2.out.size)); clear hLt3 hb3))
          | (go_at_call 8; refine (haw _ HB3.out).mono ?_; rintro e w4 ⟨rfl, hb4⟩))
        exact HP.out _ (HB3.out.trans (hb4.mono HB3.out.size))
    · have hLt2 := fun W hb => law_dark (c := c2) hL2 h2 W hb
      go_enter Tryd.func5, Tryd.ntmps5
      go_wp2_with (first
        | (go_at_call 7; first
          | (refine hLt1.mono ?_; rintro e w1 ⟨rfl, hb1⟩; have HB1 := Lib.hid hb1; clear hLt1 hb1)
          | (refine (hLt2 _ HB1.out).mono ?_; rintro e w2 ⟨rfl, hb2⟩; have HB2 := Lib.hid (HB1.out.trans (hb2.mono HB1.out.size)); clear hLt2 hb2))
        | (go_at_call 8; refine (haw _ HB2.out).mono ?_; rintro e w4 ⟨rfl, hb4⟩))
      exact HP.out _ (HB2.out.trans (hb4.mono HB2.out.size))
  · have hLt := law_dark (c := c1) hL1 h1 w (Below.refl _ _)
    go_enter Tryd.func5, Tryd.ntmps5
    go_wp2_with (first
      | (go_at_call 7; refine hLt.mono ?_; rintro e w1 ⟨rfl, hb1⟩)
      | (go_at_call 8; refine (haw _ hb1).mono ?_; rintro e w4 ⟨rfl, hb4⟩))
    exact HP.out _ (hb1.trans (hb4.mono hb1.size))
end Go.Proofs.YtmfnnggnnnagiaaDoor
