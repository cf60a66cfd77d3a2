/- SingleParts and SingleNone hold; condition: the tables of unicode/utf8 are laid. -/
import Derived.Test.YtpnjandlpbjddabDoorKI
set_option maxRecDepth 100000
set_option maxHeartbeats 1000000
namespace Go.Proofs.YtpnjandlpbjddabDoor
open Go Go.RowKit

theorem app_list (a b : ByteArray) : (a ++ b).data.toList = a.data.toList ++ b.data.toList := by simp
theorem tb_app (f : UInt8 → Int) (a b : ByteArray) : tB ((a ++ b).data.toList.map f) = tB (a.data.toList.map f) ++ tB (b.data.toList.map f) := by
  rw [app_list, List.map_append]
  unfold tB
  rw [textL_append]
  exact (mk_append _ _).symm
theorem Parts_in (c : Nat) (hc : c ≤ 3) (a b : ByteArray) (ha : a.size ≤ 200) (hb : b.size ≤ 200) (w : World) (hT : Tabs w) :
    Calls Tryd.prog 3 #[.int .i64 c, .string a, .string b] w fun e w' => e = .returned (.bool true) ∧ Below w.heap.size w w' := by
  have HP : Hid (∀ w', Below w.heap.size w w' → (fun e w' => e = Ending.returned (.bool true) ∧ Below w.heap.size w w') (.returned (.bool true)) w') := Lib.hid fun w' hb => ⟨rfl, hb⟩
  generalize (fun (e : Ending) (w' : World) => e = Ending.returned (.bool true) ∧ Below w.heap.size w w') = P at *
  have G0 : Hid (Below w.heap.size w w ∧ Tabs w) := Lib.hid ⟨Below.refl _ _, hT⟩
  have hc0 : ¬ ((c : Int) < 0) := by omega
  have hc3 : ¬ ((3 : Int) < c) := by omega
  have ha3 : ¬ ((200 : Int) < a.size) := by omega
  have hb3 : ¬ ((200 : Int) < b.size) := by omega
  have hab : (a ++ b).size ≤ 400 := by rw [ByteArray.size_append]; omega
  have ht := tb_app (fun x => sgnL c x.toNat) a b
  have hza := dec_size c a.data.toList
  have hzb := dec_size c b.data.toList
  rw [show a.data.toList.length = a.size by simp] at hza
  rw [show b.data.toList.length = b.size by simp] at hzb
  have hda := fun A cp q rs (hL : prsT rs = setL c) (hn : rs.length ≤ 4096) W h hT => Dec_set hc (A := A) (cp := cp) (q := q) (rs := rs) a hL (by omega) hn W h hT
  have hdb := fun A cp q rs (hL : prsT rs = setL c) (hn : rs.length ≤ 4096) W h hT => Dec_set hc (A := A) (cp := cp) (q := q) (rs := rs) b hL (by omega) hn W h hT
  have hdc := fun A cp q rs (hL : prsT rs = setL c) (hn : rs.length ≤ 4096) W h hT => Dec_set hc (A := A) (cp := cp) (q := q) (rs := rs) (a ++ b) hL (by omega) hn W h hT
  rw [ht] at hdc
  generalize tB (a.data.toList.map fun x => sgnL c x.toNat) = ta at *
  generalize tB (b.data.toList.map fun x => sgnL c x.toNat) = tb at *
  have Hda := Lib.hid hda
  have Hdb := Lib.hid hdb
  have Hdc := Lib.hid hdc
  have Hof := Lib.hid (fun W h => SOf_yes c hc W h)
  unfold OfPost at Hof
  clear hda hdb hdc ht
  go_enter Tryd.func3, Tryd.ntmps3
  go_wp2_with fail
  refine (Hof.out _ hT).mono ?_
  rintro e w1 ⟨A, cp, rs, rfl, h11, h12, h13, h14, hb1⟩
  have G1 := stw (stw G0 hb1) (al (.cells #[.slice A rs.length cp, .int .i64 (c : Int)] 27))
  have HR1 := Lib.hid (tb_al h13 (.cells #[.slice A rs.length cp, .int .i64 (c : Int)] 27))
  have F5 := Lib.hid (heap_alloc_new w1 (.cells #[.slice A rs.length cp, .int .i64 (c : Int)] 27))
  have H14 := Lib.hid h14
  clear h13 h14 hb1
  go_wp2_with fail
  refine (Hda.out A cp c rs H14.out h12 _ HR1.out G1.out.2).mono ?_
  rintro e w2 ⟨rfl, hb2⟩
  have G2 := stw (stw G1 hb2) (al (.cells #[.int .i64 0, .int .i64 0] 33))
  have HR2 := Lib.hid (tb_al (tb_bl HR1.out hb2) (.cells #[.int .i64 0, .int .i64 0] 33))
  have F5b := Lib.hid (heap_below (heap_below F5.out hb2) (al (.cells #[.int .i64 0, .int .i64 0] 33)))
  have Fx := Lib.hid (heap_alloc_new w2 (.cells #[.int .i64 0, .int .i64 0] 33))
  obtain ⟨p0, p1⟩ := two_c F5b.out
  clear hb2 HR1 F5
  go_wp2_with fail
  refine (Hdb.out A cp c rs H14.out h12 _ HR2.out G2.out.2).mono ?_
  rintro e w3 ⟨rfl, hb3'⟩
  have G3 := stw (stw G2 hb3') (al (.cells #[.int .i64 0, .int .i64 0] 33))
  have HR3 := Lib.hid (tb_al (tb_bl HR2.out hb3') (.cells #[.int .i64 0, .int .i64 0] 33))
  have F5c := Lib.hid (heap_below (heap_below F5b.out hb3') (al (.cells #[.int .i64 0, .int .i64 0] 33)))
  have Fxb := Lib.hid (heap_below (heap_below Fx.out hb3') (al (.cells #[.int .i64 0, .int .i64 0] 33)))
  have Fy := Lib.hid (heap_alloc_new w3 (.cells #[.int .i64 0, .int .i64 0] 33))
  clear p0 p1
  obtain ⟨p0, p1⟩ := two_c F5c.out
  clear hb3' HR2 F5b Fx
  go_wp2_with fail
  refine (Hdc.out A cp c rs H14.out h12 _ HR3.out G3.out.2).mono ?_
  rintro e w4 ⟨rfl, hb4⟩
  have G4 := stw (stw G3 hb4) (al (.cells #[.int .i64 0, .int .i64 0] 33))
  have Fxc := Lib.hid (heap_below (heap_below Fxb.out hb4) (al (.cells #[.int .i64 0, .int .i64 0] 33)))
  have Fyb := Lib.hid (heap_below (heap_below Fy.out hb4) (al (.cells #[.int .i64 0, .int .i64 0] 33)))
  have Fz := Lib.hid (heap_alloc_new w4 (.cells #[.int .i64 0, .int .i64 0] 33))
  clear hb4 HR3 F5c Fxb Fy p0 p1
  go_wp2_with fail
  refine (awake5 _ G4.out.2).mono ?_
  rintro e w5 ⟨rfl, hb5⟩
  have G5 := stw G4 hb5
  obtain ⟨p0, p1⟩ := two_c (heap_below Fxc.out hb5)
  have Fyc := Lib.hid (heap_below Fyb.out hb5)
  have Fzb := Lib.hid (heap_below Fz.out hb5)
  clear hb5 Fxc Fyb Fz
  go_wp2_with fail
  refine (Bad_any 0 0 _).mono ?_
  rintro e w6 ⟨rfl, hb6⟩
  have G6 := stw G5 hb6
  obtain ⟨q0, q1⟩ := two_c (heap_below Fyc.out hb6)
  have Fzc := Lib.hid (heap_below Fzb.out hb6)
  clear hb6 Fyc Fzb p0 p1
  go_wp2_with fail
  refine (Bad_any 0 0 _).mono ?_
  rintro e w7 ⟨rfl, hb7⟩
  have G7 := stw G6 hb7
  obtain ⟨r0, r1⟩ := two_c (heap_below Fzc.out hb7)
  clear hb7 Fzc q0 q1
  go_wp2_with fail
  refine (Bad_any 0 0 _).mono ?_
  rintro e w8 ⟨rfl, hb8⟩
  have G8 := stw G7 hb8
  clear hb8
  go_wp2_with fail
  exact HP.out _ G8.out.1
theorem SingleParts_law (c : Int) (a b : ByteArray) (w : World) (hT : Tabs w) :
    Calls Tryd.prog 3 #[.int .i64 c, .string a, .string b] w fun e w' => e = .returned (.bool true) ∧ Below w.heap.size w w' := by
  have hof := fun W h => SOf_some c W h
  by_cases h0 : c < 0
  · go_enter Tryd.func3, Tryd.ntmps3
    go_wp2_with (first
      | (go_at_call 6; refine (hof _ hT).mono ?_; rintro e w1 ⟨A, n, cp, z, ok, rfl, hb1⟩; have hT1 := Tabs_below hT hb1 (Nat.le_refl _))
      | (go_at_call 7; refine (awake5 _ (tabs_alloc hT1 _)).mono ?_; rintro e w2 ⟨rfl, hb2⟩))
    go_ret
    exact ⟨rfl, bch hb1 (below_a1 hb2)⟩
  by_cases h3 : 3 < c
  · go_enter Tryd.func3, Tryd.ntmps3
    go_wp2_with (first
      | (go_at_call 6; refine (hof _ hT).mono ?_; rintro e w1 ⟨A, n, cp, z, ok, rfl, hb1⟩; have hT1 := Tabs_below hT hb1 (Nat.le_refl _))
      | (go_at_call 7; refine (awake5 _ (tabs_alloc hT1 _)).mono ?_; rintro e w2 ⟨rfl, hb2⟩))
    go_ret
    exact ⟨rfl, bch hb1 (below_a1 hb2)⟩
  by_cases ha : a.size ≤ 200
  · by_cases hb : b.size ≤ 200
    · obtain ⟨n, rfl⟩ := Int.eq_ofNat_of_zero_le (show 0 ≤ c by omega)
      exact Parts_in n (by omega) a b ha hb w hT
    · have hb3 : (200 : Int) < b.size := by omega
      have ha3 : ¬ ((200 : Int) < a.size) := by omega
      go_enter Tryd.func3, Tryd.ntmps3
      go_wp2_with (first
        | (go_at_call 6; refine (hof _ hT).mono ?_; rintro e w1 ⟨A, n, cp, z, ok, rfl, hb1⟩; have hT1 := Tabs_below hT hb1 (Nat.le_refl _))
        | (go_at_call 7; refine (awake5 _ (tabs_alloc hT1 _)).mono ?_; rintro e w2 ⟨rfl, hb2⟩))
      go_ret
      exact ⟨rfl, bch hb1 (below_a1 hb2)⟩
  · have ha3 : (200 : Int) < a.size := by omega
    go_enter Tryd.func3, Tryd.ntmps3
    go_wp2_with (first
      | (go_at_call 6; refine (hof _ hT).mono ?_; rintro e w1 ⟨A, n, cp, z, ok, rfl, hb1⟩; have hT1 := Tabs_below hT hb1 (Nat.le_refl _))
      | (go_at_call 7; refine (awake5 _ (tabs_alloc hT1 _)).mono ?_; rintro e w2 ⟨rfl, hb2⟩))
    go_ret
    exact ⟨rfl, bch hb1 (below_a1 hb2)⟩
end Go.Proofs.YtpnjandlpbjddabDoor
