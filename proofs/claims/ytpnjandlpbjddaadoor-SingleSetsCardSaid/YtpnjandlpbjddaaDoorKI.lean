/- SingleReads holds: any charset's number, any bytes; condition: the tables of unicode/utf8 are laid. -/
import Derived.Test.YtpnjandlpbjddaaDoorKH
set_option maxRecDepth 100000
set_option maxHeartbeats 1000000
namespace Go.Proofs.YtpnjandlpbjddaaDoor
open Go Go.RowKit

theorem awake5 (w : World) (hT : Tabs w) :
    Calls Tryd.prog 7 #[] w fun e w' => e = .returned (.bool true) ∧ Below w.heap.size w w' := by
  go_enter Tryd.func7, Tryd.ntmps7
  go_wp2_with (go_at_call 23; refine (Awake5 _ hT).mono ?_; rintro e w1 ⟨rfl, hb1⟩)
  go_ret
  exact ⟨rfl, hb1⟩
theorem SOf_some (c : Int) (w : World) (hT : Tabs w) : Calls Tryd.prog 6 #[.int .i64 c] w fun e w' => ∃ (A : Option Addr) (n cp : Nat) (z : Int) (ok : Bool), e = .returned (.tuple #[.agg #[.slice A n cp, .int .i64 z], .bool ok]) ∧ Below w.heap.size w w' := by
  by_cases hc : c < 0 ∨ 3 < c
  · exact (SOf_no c hc w).mono fun e w' ⟨h1, h2⟩ => ⟨none, 0, 0, 0, false, h1, h2⟩
  · obtain ⟨n, rfl⟩ := Int.eq_ofNat_of_zero_le (show 0 ≤ c by omega)
    exact (SOf_yes n (by omega) w hT).mono fun e w' ⟨A, cp, rs, h1, _, _, _, _, h2⟩ => ⟨A, rs.length, cp, _, true, h1, h2⟩
theorem str_eq (b : ByteArray) : (⟨b.data.toList.toArray⟩ : ByteArray) = b := by
  apply ByteArray.ext
  simp
theorem dec_good {c : Nat} (hc : c ≤ 3) (l : List UInt8) : Good (tB (l.map fun x => sgnL c x.toNat)) (l.map fun x => sgnL c x.toNat) :=
  good_text fun p hp => by
    obtain ⟨x, _, rfl⟩ := List.mem_map.1 hp
    exact sgn_sc hc x.toNat_lt
theorem dec_size (c : Nat) (l : List UInt8) : (tB (l.map fun x => sgnL c x.toNat)).size ≤ 4 * l.length := by
  have h := (len_textL (l.map fun x => sgnL c x.toNat)).2
  rw [List.length_map] at h
  exact h
theorem Reads_in (c : Nat) (hc : c ≤ 3) (b : ByteArray) (hb : b.size ≤ 300) (w : World) (hT : Tabs w) :
    Calls Tryd.prog 4 #[.int .i64 c, .string b] w fun e w' => e = .returned (.bool true) ∧ Below w.heap.size w w' := by
  have HP : Hid (∀ w', Below w.heap.size w w' → (fun e w' => e = Ending.returned (.bool true) ∧ Below w.heap.size w w') (.returned (.bool true)) w') := Lib.hid fun w' hb => ⟨rfl, hb⟩
  generalize (fun (e : Ending) (w' : World) => e = Ending.returned (.bool true) ∧ Below w.heap.size w w') = P at *
  have G0 : Hid (Below w.heap.size w w ∧ Tabs w) := Lib.hid ⟨Below.refl _ _, hT⟩
  have hbl : b.data.toList.length = b.size := by simp
  have hc0 : ¬ ((c : Int) < 0) := by omega
  have hc3 : ¬ ((3 : Int) < c) := by omega
  have hb3 : ¬ ((300 : Int) < b.size) := by omega
  have hg := dec_good hc b.data.toList
  have hz := dec_size c b.data.toList
  rw [hbl] at hz
  have hec := dc_ec hc b.data.toList 0
  have hrd := fun W => RDecode_any c hc b (by omega) W
  have hdec := fun A cp q rs (hL : prsT rs = setL c) (hn : rs.length ≤ 4096) W h hT => Dec_set hc (A := A) (cp := cp) (q := q) (rs := rs) b hL (by omega) hn W h hT
  have henc := fun A cp q rs (hL : prsT rs = setL c) (hn : rs.length ≤ 4096) W h hT => Enc_set hc (A := A) (cp := cp) (q := q) (rs := rs) _ _ hg hL (by omega) hn W h hT
  rw [hec] at henc
  rw [show EcRes (.inl b.data.toList) = .tuple #[.string b, .agg #[.int .i64 0, .int .i64 0]] by show Value.tuple #[.string ⟨b.data.toList.toArray⟩, .agg #[.int .i64 0, .int .i64 0]] = _; rw [str_eq]] at henc
  clear hec hg hbl
  generalize tB (b.data.toList.map fun x => sgnL c x.toNat) = t at *
  have Hdec := Lib.hid hdec
  have Henc := Lib.hid henc
  have Hrd := Lib.hid hrd
  have hof := fun W h => SOf_yes c hc W h
  unfold OfPost at hof
  have Hof := Lib.hid hof
  clear hdec henc hrd hof
  go_enter Tryd.func4, Tryd.ntmps4
  go_wp2_with fail
  refine (Hof.out _ hT).mono ?_
  rintro e w1 ⟨A, cp, rs, rfl, h11, h12, h13, h14, hb1⟩
  have G1 := stw (stw G0 hb1) (al (.cells #[.slice A rs.length cp, .int .i64 (c : Int)] 27))
  have HR1 := Lib.hid (tb_al h13 (.cells #[.slice A rs.length cp, .int .i64 (c : Int)] 27))
  have F5 := Lib.hid (heap_alloc_new w1 (.cells #[.slice A rs.length cp, .int .i64 (c : Int)] 27))
  have H14 := Lib.hid h14
  clear h13 h14 hb1
  go_wp2_with fail
  refine (Hdec.out A cp c rs H14.out h12 _ HR1.out G1.out.2).mono ?_
  rintro e w2 ⟨rfl, hb2⟩
  have G2 := stw (stw G1 hb2) (al (.cells #[.int .i64 0, .int .i64 0] 40))
  have HR2 := Lib.hid (tb_al (tb_bl HR1.out hb2) (.cells #[.int .i64 0, .int .i64 0] 40))
  have F5b := Lib.hid (heap_below (heap_below F5.out hb2) (al (.cells #[.int .i64 0, .int .i64 0] 40)))
  have F8 := Lib.hid (heap_alloc_new w2 (.cells #[.int .i64 0, .int .i64 0] 40))
  obtain ⟨p0, p1⟩ := two_c F5b.out
  clear hb2 HR1 F5
  go_wp2_with fail
  refine (Henc.out A cp c rs H14.out h12 _ HR2.out G2.out.2).mono ?_
  rintro e w3 ⟨rfl, hb3⟩
  have G3 := stw (stw G2 hb3) (al (.cells #[.int .i64 0, .int .i64 0] 40))
  have F8b := Lib.hid (heap_below (heap_below F8.out hb3) (al (.cells #[.int .i64 0, .int .i64 0] 40)))
  have F10 := Lib.hid (heap_alloc_new w3 (.cells #[.int .i64 0, .int .i64 0] 40))
  clear hb3 HR2 F5b F8 p0 p1
  go_wp2_with fail
  refine (awake5 _ G3.out.2).mono ?_
  rintro e w4 ⟨rfl, hb4⟩
  have G4 := stw G3 hb4
  have F8c := Lib.hid (heap_below F8b.out hb4)
  have F10b := Lib.hid (heap_below F10.out hb4)
  clear hb4 F8b F10
  go_wp2_with fail
  refine (Hrd.out _).mono ?_
  rintro e w5 ⟨rfl, hb5⟩
  have G5 := stw G4 hb5
  have F8d := Lib.hid (heap_below F8c.out hb5)
  have F10c := Lib.hid (heap_below F10b.out hb5)
  obtain ⟨p0, p1⟩ := two_c F8d.out
  clear hb5 F8c F10b
  go_wp2_with fail
  refine (Bad_any 0 0 _).mono ?_
  rintro e w6 ⟨rfl, hb6⟩
  have G6 := stw G5 hb6
  have F10d := Lib.hid (heap_below F10c.out hb6)
  obtain ⟨q0, q1⟩ := two_c F10d.out
  clear hb6 F10c p0 p1
  go_wp2_with fail
  refine (Bad_any 0 0 _).mono ?_
  rintro e w7 ⟨rfl, hb7⟩
  have G7 := stw G6 hb7
  clear hb7 q0 q1
  go_wp2_with fail
  exact HP.out _ G7.out.1
theorem SingleReads_law (c : Int) (b : ByteArray) (w : World) (hT : Tabs w) :
    Calls Tryd.prog 4 #[.int .i64 c, .string b] w fun e w' => e = .returned (.bool true) ∧ Below w.heap.size w w' := by
  have hof := fun W h => SOf_some c W h
  by_cases h0 : c < 0
  · go_enter Tryd.func4, Tryd.ntmps4
    go_wp2_with (first
      | (go_at_call 6; refine (hof _ hT).mono ?_; rintro e w1 ⟨A, n, cp, z, ok, rfl, hb1⟩; have hT1 := Tabs_below hT hb1 (Nat.le_refl _))
      | (go_at_call 7; refine (awake5 _ (tabs_alloc hT1 _)).mono ?_; rintro e w2 ⟨rfl, hb2⟩))
    go_ret
    exact ⟨rfl, bch hb1 (below_a1 hb2)⟩
  by_cases h3 : 3 < c
  · go_enter Tryd.func4, Tryd.ntmps4
    go_wp2_with (first
      | (go_at_call 6; refine (hof _ hT).mono ?_; rintro e w1 ⟨A, n, cp, z, ok, rfl, hb1⟩; have hT1 := Tabs_below hT hb1 (Nat.le_refl _))
      | (go_at_call 7; refine (awake5 _ (tabs_alloc hT1 _)).mono ?_; rintro e w2 ⟨rfl, hb2⟩))
    go_ret
    exact ⟨rfl, bch hb1 (below_a1 hb2)⟩
  by_cases hb : b.size ≤ 300
  · obtain ⟨n, rfl⟩ := Int.eq_ofNat_of_zero_le (show 0 ≤ c by omega)
    exact Reads_in n (by omega) b hb w hT
  · have hb3 : (300 : Int) < b.size := by omega
    go_enter Tryd.func4, Tryd.ntmps4
    go_wp2_with (first
      | (go_at_call 6; refine (hof _ hT).mono ?_; rintro e w1 ⟨A, n, cp, z, ok, rfl, hb1⟩; have hT1 := Tabs_below hT hb1 (Nat.le_refl _))
      | (go_at_call 7; refine (awake5 _ (tabs_alloc hT1 _)).mono ?_; rintro e w2 ⟨rfl, hb2⟩))
    go_ret
    exact ⟨rfl, bch hb1 (below_a1 hb2)⟩
end Go.Proofs.YtpnjandlpbjddaaDoor
