/- SingleWrites holds: any charset's number, any text; condition: the tables of unicode/utf8 are laid. -/
import Derived.Test.YtpnjandlpbjddaaDoorKI
set_option maxRecDepth 100000
set_option maxHeartbeats 1000000
namespace Go.Proofs.YtpnjandlpbjddaaDoor
open Go Go.RowKit

theorem Writes_bad (c : Nat) (hc : c ≤ 3) (s : ByteArray) (n : Nat) (hg : BadAt s n) (hs : s.size ≤ 300) (w : World) (hT : Tabs w) :
    Calls Tryd.prog 5 #[.int .i64 c, .string s] w fun e w' => e = .returned (.bool true) ∧ Below w.heap.size w w' := by
  have HP : Hid (∀ w', Below w.heap.size w w' → (fun e w' => e = Ending.returned (.bool true) ∧ Below w.heap.size w w') (.returned (.bool true)) w') := Lib.hid fun w' hb => ⟨rfl, hb⟩
  generalize (fun (e : Ending) (w' : World) => e = Ending.returned (.bool true) ∧ Below w.heap.size w w') = P at *
  have G0 : Hid (Below w.heap.size w w ∧ Tabs w) := Lib.hid ⟨Below.refl _ _, hT⟩
  have hc0 : ¬ ((c : Int) < 0) := by omega
  have hc3 : ¬ ((3 : Int) < c) := by omega
  have hb3 : ¬ ((300 : Int) < s.size) := by omega
  have Henc := Lib.hid (fun A cp q m W hT => SEncode_bad A cp q m s n hg (by omega) W hT)
  have Hrp := Lib.hid (fun W => RPoints_bad s n hg (by omega) W)
  have Hlf := Lib.hid (fun W => LFault_pos n (by omega) W)
  have Hof := Lib.hid (fun W h => SOf_yes c hc W h)
  unfold OfPost at Hof
  clear hg
  go_enter Tryd.func5, Tryd.ntmps5
  go_wp2_with fail
  refine (Hof.out _ hT).mono ?_
  rintro e w1 ⟨A, cp, rs, rfl, h11, h12, h13, h14, hb1⟩
  have G1 := stw (stw G0 hb1) (al (.cells #[.slice A rs.length cp, .int .i64 (c : Int)] 27))
  clear h13 h14 hb1
  go_wp2_with fail
  refine (Henc.out A cp c rs.length _ G1.out.2).mono ?_
  rintro e w2 ⟨rfl, hb2⟩
  have G2 := stw (stw G1 hb2) (al (.cells #[.int .i64 2, .int .i64 (n : Int)] 40))
  have F8 := Lib.hid (heap_alloc_new w2 (.cells #[.int .i64 2, .int .i64 (n : Int)] 40))
  clear hb2
  go_wp2_with fail
  refine (Hrp.out _).mono ?_
  rintro e w3 ⟨rfl, hb3⟩
  have G3 := stw G2 hb3
  have F8b := Lib.hid (heap_below F8.out hb3)
  have hge : decide ((0 : Int) ≤ n) = true := by simp
  clear hb3 F8
  go_wp2_with fail
  have hS0 : (w3.drew.cell? ⟨w2.heap.size, 0, none⟩ = some (.int .i64 2) ∧ w3.drew.cell? ⟨w2.heap.size, 1, none⟩ = some (.int .i64 (n : Int))) := two_c F8b.out
  have hbd : Below w3.heap.size w3 w3.drew := (Below.refl _ _).drew
  have hTd := Tabs_below G3.out.2 hbd (Nat.le_refl _)
  have G4 := stw G3 hbd
  have F8c := Lib.hid (heap_below F8b.out hbd)
  refine wp_region_lin (fun W => W.cell? ⟨w2.heap.size, 0, none⟩ = some (.int .i64 2) ∧ W.cell? ⟨w2.heap.size, 1, none⟩ = some (.int .i64 (n : Int))) [(0, false), (1, true), (2, true), (3, true), (4, true), (5, true), (6, true), (7, true), (8, true), (9, true), (10, true), (11, false), (12, true), (13, true), (14, true)] (by kernel_rfl) (by kernel_rfl) (by kernel_rfl) (Nat.le_of_ble_eq_true rfl) (fun _ _ d _ _ h => by cases d <;> exact h) hS0 ?_
  clear hbd hS0
  generalize w3.drew = W0 at *
  refine lin_eff rfl (by rfl) (fun K hK => ?_)
  go_simp
  refine (awake5 _ hTd).mono ?_
  rintro e w4 ⟨rfl, hb4⟩
  have G5 := stw G4 hb4
  have hS1 := two_c (heap_below F8c.out hb4)
  have F8d := Lib.hid (heap_below F8c.out hb4)
  clear hb4
  go_wp2_with fail
  refine hK.out _ _ hS1 ?_
  clear hK K
  try simp only [Act.put, List.setIfInBounds_toArray, List.set_cons_zero, List.set_cons_succ]
  repeat (refine' lin_pure rfl (by rfl) _ (fun W hSw => _) _; rotate_left; (obtain ⟨s1, s2⟩ := hSw; go_simp; try with_reducible rfl); try simp only [Act.put, List.setIfInBounds_toArray, List.set_cons_zero, List.set_cons_succ])
  refine lin_eff rfl (by rfl) (fun K hK => ?_)
  go_simp
  refine (Hlf.out _).mono ?_
  rintro e w5 ⟨rfl, hb5⟩
  have G6 := stw G5 hb5
  have hS2 := two_c (heap_below F8d.out hb5)
  clear hb5
  go_wp2_with fail
  refine hK.out _ _ hS2 ?_
  clear hK K
  try simp only [Act.put, List.setIfInBounds_toArray, List.set_cons_zero, List.set_cons_succ]
  repeat (refine' lin_pure rfl (by rfl) _ (fun W hSw => _) _; rotate_left; (obtain ⟨s1, s2⟩ := hSw; go_simp; try with_reducible rfl); try simp only [Act.put, List.setIfInBounds_toArray, List.set_cons_zero, List.set_cons_succ])
  refine lin_nil ?_
  go_wp2_with fail
  exact HP.out _ G6.out.1
theorem Writes_good (c : Nat) (hc : c ≤ 3) (s : ByteArray) (ps : List Int) (hg : Good s ps) (hs : s.size ≤ 300) (w : World) (hT : Tabs w) :
    Calls Tryd.prog 5 #[.int .i64 c, .string s] w fun e w' => e = .returned (.bool true) ∧ Below w.heap.size w w' := by
  have HP : Hid (∀ w', Below w.heap.size w w' → (fun e w' => e = Ending.returned (.bool true) ∧ Below w.heap.size w w') (.returned (.bool true)) w') := Lib.hid fun w' hb => ⟨rfl, hb⟩
  generalize (fun (e : Ending) (w' : World) => e = Ending.returned (.bool true) ∧ Below w.heap.size w w') = P at *
  have G0 : Hid (Below w.heap.size w w ∧ Tabs w) := Lib.hid ⟨Below.refl _ _, hT⟩
  have hlen := hg.len
  have hc0 : ¬ ((c : Int) < 0) := by omega
  have hc3 : ¬ ((3 : Int) < c) := by omega
  have hb3 : ¬ ((300 : Int) < s.size) := by omega
  have Hrp := Lib.hid (fun W => RPoints_good s ps hg (by omega) W)
  have Hof := Lib.hid (fun W h => SOf_yes c hc W h)
  unfold OfPost at Hof
  have henc := fun A cp q rs (hL : prsT rs = setL c) (hn : rs.length ≤ 4096) W h hT => Enc_set hc (A := A) (cp := cp) (q := q) (rs := rs) s ps hg hL (by omega) hn W h hT
  have hren := fun A cap W hn => REncode_any c A cap ps hg.2 (by omega) W hn
  unfold RePost at hren
  cases hr : ecF (cdOf (setL c)) ps 0 with
  | inr j =>
    rw [hr] at henc hren
    rw [show EcRes (.inr j) = .tuple #[.string ⟨#[]⟩, .agg #[.int .i64 6, .int .i64 (j : Int)]] from rfl] at henc
    rw [show ReRes (.inr j) = .tuple #[.string ⟨#[]⟩, .int .i64 (j : Int)] from rfl] at hren
    have Henc := Lib.hid henc
    have Hren := Lib.hid hren
    clear henc hren hr hg
    have hge : decide ((0 : Int) ≤ j) = true := by simp
    go_enter Tryd.func5, Tryd.ntmps5
    go_wp2_with fail
    refine (Hof.out _ hT).mono ?_
    rintro e w1 ⟨A, cp, rs, rfl, h11, h12, h13, h14, hb1⟩
    have G1 := stw (stw G0 hb1) (al (.cells #[.slice A rs.length cp, .int .i64 (c : Int)] 27))
    have HR1 := Lib.hid (tb_al h13 (.cells #[.slice A rs.length cp, .int .i64 (c : Int)] 27))
    have H14 := Lib.hid h14
    clear h13 h14 hb1
    go_wp2_with fail
    refine (Henc.out A cp c rs H14.out h12 _ HR1.out G1.out.2).mono ?_
    rintro e w2 ⟨rfl, hb2⟩
    have G2 := stw (stw G1 hb2) (al (.cells #[.int .i64 6, .int .i64 (j : Int)] 40))
    have F8 := Lib.hid (heap_alloc_new w2 (.cells #[.int .i64 6, .int .i64 (j : Int)] 40))
    clear hb2 HR1
    go_wp2_with fail
    refine (Hrp.out _).mono ?_
    rintro e w3 ⟨A3, c3, rfl, hc33, hn3, hb3'⟩
    have HN3 := Lib.hid hn3
    have G3 := stw G2 hb3'
    have F8b := Lib.hid (heap_below F8.out hb3')
    clear hn3 hb3' F8
    go_wp2_with fail
    refine (Hren.out A3 c3 _ HN3.out).mono ?_
    rintro e w4 ⟨rfl, hb4⟩
    have G4 := stw G3 hb4
    have F8c := Lib.hid (heap_below F8b.out hb4)
    clear hb4 F8b
    go_wp2_with fail
    refine (awake5 _ G4.out.2).mono ?_
    rintro e w5 ⟨rfl, hb5⟩
    have G5 := stw G4 hb5
    obtain ⟨p0, p1⟩ := two_c (heap_below F8c.out hb5)
    clear hb5 F8c
    go_wp2_with fail
    exact HP.out _ G5.out.1
  | inl bs =>
    have hbl : bs.length = ps.length := by have := congrArg List.length (ec_dc c ps 0 bs hr); simpa using this
    have hback : tB ((⟨bs.toArray⟩ : ByteArray).data.toList.map fun x => sgnL c x.toNat) = s := by
      rw [show (⟨bs.toArray⟩ : ByteArray).data.toList = bs from rfl, ec_dc c ps 0 bs hr]; exact hg.eq.symm
    have hdec := fun A cp q rs (hL : prsT rs = setL c) (hn : rs.length ≤ 4096) W h hT => Dec_set hc (A := A) (cp := cp) (q := q) (rs := rs) ⟨bs.toArray⟩ hL (show bs.toArray.size ≤ 100000 by simp; omega) hn W h hT
    rw [hback] at hdec
    rw [hr] at henc hren
    rw [show EcRes (.inl bs) = .tuple #[.string ⟨bs.toArray⟩, .agg #[.int .i64 0, .int .i64 0]] from rfl] at henc
    rw [show ReRes (.inl bs) = .tuple #[.string ⟨bs.toArray⟩, .int .i64 (-1)] from rfl] at hren
    generalize (⟨bs.toArray⟩ : ByteArray) = t at *
    have Henc := Lib.hid henc
    have Hren := Lib.hid hren
    have Hdec := Lib.hid hdec
    clear henc hren hdec hr hg hback hbl
    go_enter Tryd.func5, Tryd.ntmps5
    go_wp2_with fail
    refine (Hof.out _ hT).mono ?_
    rintro e w1 ⟨A, cp, rs, rfl, h11, h12, h13, h14, hb1⟩
    have G1 := stw (stw G0 hb1) (al (.cells #[.slice A rs.length cp, .int .i64 (c : Int)] 27))
    have HR1 := Lib.hid (tb_al h13 (.cells #[.slice A rs.length cp, .int .i64 (c : Int)] 27))
    have F5 := Lib.hid (heap_alloc_new w1 (.cells #[.slice A rs.length cp, .int .i64 (c : Int)] 27))
    have H14 := Lib.hid h14
    clear h13 h14 hb1
    go_wp2_with fail
    refine (Henc.out A cp c rs H14.out h12 _ HR1.out G1.out.2).mono ?_
    rintro e w2 ⟨rfl, hb2⟩
    have G2 := stw (stw G1 hb2) (al (.cells #[.int .i64 0, .int .i64 0] 40))
    have F8 := Lib.hid (heap_alloc_new w2 (.cells #[.int .i64 0, .int .i64 0] 40))
    have F5b := Lib.hid (heap_below (heap_below F5.out hb2) (al (.cells #[.int .i64 0, .int .i64 0] 40)))
    have HR2 := Lib.hid (tb_al (tb_bl HR1.out hb2) (.cells #[.int .i64 0, .int .i64 0] 40))
    clear hb2 HR1 F5
    go_wp2_with fail
    refine (Hrp.out _).mono ?_
    rintro e w3 ⟨A3, c3, rfl, hc33, hn3, hb3'⟩
    have HN3 := Lib.hid hn3
    have G3 := stw G2 hb3'
    have F8b := Lib.hid (heap_below F8.out hb3')
    have F5c := Lib.hid (heap_below F5b.out hb3')
    have HR3 := Lib.hid (tb_bl HR2.out hb3')
    clear hn3 hb3' F8 F5b HR2
    go_wp2_with fail
    refine (Hren.out A3 c3 _ HN3.out).mono ?_
    rintro e w4 ⟨rfl, hb4⟩
    have G4 := stw G3 hb4
    have F8c := Lib.hid (heap_below F8b.out hb4)
    have HR4 := Lib.hid (tb_bl HR3.out hb4)
    obtain ⟨p0, p1⟩ := two_c (heap_below F5c.out hb4)
    clear hb4 F8b F5c HR3
    go_wp2_with fail
    refine (Hdec.out A cp c rs H14.out h12 _ HR4.out G4.out.2).mono ?_
    rintro e w5 ⟨rfl, hb5⟩
    have G5 := stw (stw G4 hb5) (al (.cells #[.int .i64 0, .int .i64 0] 40))
    have F8d := Lib.hid (heap_below (heap_below F8c.out hb5) (al (.cells #[.int .i64 0, .int .i64 0] 40)))
    have F14 := Lib.hid (heap_alloc_new w5 (.cells #[.int .i64 0, .int .i64 0] 40))
    clear hb5 F8c HR4 p0 p1
    go_wp2_with fail
    refine (awake5 _ G5.out.2).mono ?_
    rintro e w6 ⟨rfl, hb6⟩
    have G6 := stw G5 hb6
    obtain ⟨q0, q1⟩ := two_c (heap_below F8d.out hb6)
    have F14b := Lib.hid (heap_below F14.out hb6)
    clear hb6 F8d F14
    go_wp2_with fail
    refine (Bad_any 0 0 _).mono ?_
    rintro e w7 ⟨rfl, hb7⟩
    have G7 := stw G6 hb7
    obtain ⟨r0, r1⟩ := two_c (heap_below F14b.out hb7)
    clear hb7 q0 q1 F14b
    go_wp2_with fail
    refine (Bad_any 0 0 _).mono ?_
    rintro e w8 ⟨rfl, hb8⟩
    have G8 := stw G7 hb8
    clear hb8
    go_wp2_with fail
    exact HP.out _ G8.out.1
theorem SingleWrites_law (c : Int) (b : ByteArray) (w : World) (hT : Tabs w) :
    Calls Tryd.prog 5 #[.int .i64 c, .string b] w fun e w' => e = .returned (.bool true) ∧ Below w.heap.size w w' := by
  have hof := fun W h => SOf_some c W h
  by_cases h0 : c < 0
  · go_enter Tryd.func5, Tryd.ntmps5
    go_wp2_with (first
      | (go_at_call 6; refine (hof _ hT).mono ?_; rintro e w1 ⟨A, n, cp, z, ok, rfl, hb1⟩; have hT1 := Tabs_below hT hb1 (Nat.le_refl _))
      | (go_at_call 7; refine (awake5 _ (tabs_alloc hT1 _)).mono ?_; rintro e w2 ⟨rfl, hb2⟩))
    go_ret
    exact ⟨rfl, bch hb1 (below_a1 hb2)⟩
  by_cases h3 : 3 < c
  · go_enter Tryd.func5, Tryd.ntmps5
    go_wp2_with (first
      | (go_at_call 6; refine (hof _ hT).mono ?_; rintro e w1 ⟨A, n, cp, z, ok, rfl, hb1⟩; have hT1 := Tabs_below hT hb1 (Nat.le_refl _))
      | (go_at_call 7; refine (awake5 _ (tabs_alloc hT1 _)).mono ?_; rintro e w2 ⟨rfl, hb2⟩))
    go_ret
    exact ⟨rfl, bch hb1 (below_a1 hb2)⟩
  by_cases hb : b.size ≤ 300
  · obtain ⟨n, rfl⟩ := Int.eq_ofNat_of_zero_le (show 0 ≤ c by omega)
    rcases good_or_bad b with ⟨ps, hg⟩ | ⟨k, hg⟩
    · exact Writes_good n (by omega) b ps hg hb w hT
    · exact Writes_bad n (by omega) b k hg hb w hT
  · have hb3 : (300 : Int) < b.size := by omega
    go_enter Tryd.func5, Tryd.ntmps5
    go_wp2_with (first
      | (go_at_call 6; refine (hof _ hT).mono ?_; rintro e w1 ⟨A, n, cp, z, ok, rfl, hb1⟩; have hT1 := Tabs_below hT hb1 (Nat.le_refl _))
      | (go_at_call 7; refine (awake5 _ (tabs_alloc hT1 _)).mono ?_; rintro e w2 ⟨rfl, hb2⟩))
    go_ret
    exact ⟨rfl, bch hb1 (below_a1 hb2)⟩
end Go.Proofs.YtpnjandlpbjddaaDoor
