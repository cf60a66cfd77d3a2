/- SingleSets holds: any charset's number; condition: the tables of unicode/utf8 are laid. -/
import Derived.Test.YtpnjandlpbjddaaDoorKJ
set_option maxRecDepth 100000
set_option maxHeartbeats 1000000
namespace Go.Proofs.YtpnjandlpbjddaaDoor
open Go Go.RowKit

def SsRel (c : Nat) (base : Nat) (W1 : World) (v i : Value) (wr : World) : Prop := ∃ k : Nat, k ≤ 256 ∧ i = .int .i64 k ∧ wr.ownsRow base 35 2 v ((setL c).take k).length (((setL c).take k).flatMap prV) ∧ Below base W1 wr
theorem set_len (c : Nat) : (setL c).length = 256 := by simp [setL]
theorem set_at (c k : Nat) (hk : k < 256) : (setL c)[k]? = some (k, sgnL c k) := by
  unfold setL
  rw [List.getElem?_map, List.getElem?_range hk]; rfl
theorem Sets_in (c : Nat) (hc : c ≤ 3) (w : World) (hT : Tabs w) :
    Calls Tryd.prog 3 #[.int .i64 c] w fun e w' => e = .returned (.bool true) ∧ Below w.heap.size w w' := by
  have HP : Hid (∀ w', Below w.heap.size w w' → (fun e w' => e = Ending.returned (.bool true) ∧ Below w.heap.size w w') (.returned (.bool true)) w') := Lib.hid fun w' hb => ⟨rfl, hb⟩
  generalize (fun (e : Ending) (w' : World) => e = Ending.returned (.bool true) ∧ Below w.heap.size w w') = P at *
  have G0 : Hid (Below w.heap.size w w ∧ Tabs w) := Lib.hid ⟨Below.refl _ _, hT⟩
  have hc0 : ¬ ((c : Int) < 0) := by omega
  have hc3 : ¬ ((3 : Int) < c) := by omega
  have hd0 : decide ((c : Int) < 0) = false := by simp
  have hd3 : decide ((3 : Int) < c) = false := by simp; omega
  have Hof := Lib.hid (fun W h => SOf_yes c hc W h)
  unfold OfPost at Hof
  go_enter Tryd.func3, Tryd.ntmps3
  go_wp2_with fail
  refine (Hof.out _ hT).mono ?_
  rintro e w1 ⟨A, cp, rs, rfl, h11, h12, h13, h14, hb1⟩
  have G1 := stw (stw G0 hb1) (al (.cells #[.slice A rs.length cp, .int .i64 (c : Int)] 27))
  have HR1 := Lib.hid (tb_al h13 (.cells #[.slice A rs.length cp, .int .i64 (c : Int)] 27))
  have F5 := Lib.hid (heap_alloc_new w1 (.cells #[.slice A rs.length cp, .int .i64 (c : Int)] 27))
  have H14 := Lib.hid h14
  clear h13 h14 hb1
  obtain ⟨W1, hW1⟩ : ∃ W1, W1 = w1.alloc (.cells #[.slice A rs.length cp, .int .i64 (c : Int)] 27) := ⟨_, rfl⟩
  rw [← hW1] at G1 HR1 F5
  have HW1 := Lib.hid hW1
  clear hW1
  go_wp2_with fail
  rw [← HW1.out]
  go_loopw [5, 34] (fun v i wr => SsRel c W1.heap.size W1 v i wr) (fun _ i _ => 256 - (intOf i).toNat)
  case atStart => exact ⟨0, by omega, rfl, ⟨rfl, .inl ⟨rfl, rfl⟩⟩, Below.refl _ _⟩
  case round =>
    obtain ⟨k, hk, rfl, hown, hb⟩ := hrel
    have hzr := hb.size
    by_cases hlt : k < 256
    · have hlt' : (k : Int) < 256 := by omega
      have hw8 : IntKind.u8.wrap (k : Int) = k := by simp [IntKind.wrap, IntKind.bits, IntKind.signed]; omega
      have hmod : (k : Int) % 256 = k := by omega
      have hsg := fun W => RSign_n c k hlt W
      have htk := Lib.hid (show (setL c).take (k + 1) = (setL c).take k ++ [(k, sgnL c k)] by rw [List.take_add_one, set_at c k hlt]; rfl)
      have hll : ((setL c).take k).length ≤ 256 := by rw [List.length_take]; omega
      have HO := Lib.hid hown
      clear hown
      generalize sgnL c k = z at *
      go_wp2_with (first
        | (go_at_call 9; refine (hsg _).mono ?_; rintro e w3 ⟨rfl, hb3⟩; have hzw3 := hb3.size; have hown3 := own_below HO.out hb3)
        | (at_builtin; refine app_pr rfl _ _ rfl W1.heap.size _ ((setL c).take k) rfl _ (k, z) hown3 (by omega) (by omega) rfl _ _ rfl rfl ?_; intro v6 w6 HO6 hb6; have HB6 := Lib.hid ((hb.trans (hb3.mono hzr)).trans hb6)))
      go_roundw
      case rel => exact ⟨k + 1, by omega, by simp, by rw [htk.out]; exact HO6.out, HB6.out⟩
      case measure => simp [intOf]; omega
    · obtain rfl : k = 256 := by omega
      rw [List.take_of_length_le (by rw [set_len]; exact Nat.le_refl _)] at hown
      obtain ⟨A5, c5, hA5, hc5, hR5⟩ := Reads.of_own hown
      subst hA5
      have hl5 : (setL c).length = 256 := set_len c
      have Gr := stw G1 hb
      have Fr := Lib.hid (heap_below F5.out hb)
      have HRr := Lib.hid (tb_bl HR1.out hb)
      have HR5 : Hid (PrsL wr wr.heap.size A5 (setL c)) := Lib.hid hR5
      clear hown hR5
      generalize hS : setL c = L at *
      have HS := Lib.hid hS
      clear hS
      have Hl5 := Lib.hid hl5
      clear hl5
      go_wp2_with fail
      refine (awake5 _ Gr.out.2).mono ?_
      rintro e w3 ⟨rfl, hb3⟩
      have G3 := stw Gr hb3
      have HR3 := Lib.hid (tb_bl HRr.out hb3)
      have HP3 := Lib.hid ((HR5.out.below hb3).more hb3.size)
      obtain ⟨p0, p1⟩ := two_c (heap_below Fr.out hb3)
      clear hb3
      go_wp2_with fail
      refine (Is_any A A5 cp c5 rs L H14.out (by omega) _ HR3.out HP3.out).mono ?_
      rintro e w4 ⟨rfl, hb4⟩
      have G4 := stw G3 hb4
      go_wp2_with fail
      exact HP.out _ G4.out.1
theorem SingleSets_law (c : Int) (w : World) (hT : Tabs w) :
    Calls Tryd.prog 3 #[.int .i64 c] w fun e w' => e = .returned (.bool true) ∧ Below w.heap.size w w' := by
  by_cases hc : c < 0 ∨ 3 < c
  · have hof := fun W => SOf_no c hc W
    have hsz := fun W => Size_any none 0 [] (by simp) W (TbR.nil W W.heap.size)
    rcases hc with h0 | h3
    · go_enter Tryd.func3, Tryd.ntmps3
      go_wp2_with (first
        | (go_at_call 6; refine (hof _).mono ?_; rintro e w1 ⟨rfl, hb1⟩; have hT1 := Tabs_below hT hb1 (Nat.le_refl _); have F5 := Lib.hid (heap_alloc_new w1 (.cells #[.slice none 0 0, .int .i64 0] 27)))
        | (go_at_call 7; refine (awake5 _ (tabs_alloc hT1 _)).mono ?_; rintro e w2 ⟨rfl, hb2⟩; obtain ⟨p0, p1⟩ := two_c (heap_below F5.out hb2); have F5b := Lib.hid (heap_below F5.out hb2))
        | (go_at_call 8; refine (hsz _).mono ?_; rintro e w3 ⟨rfl, hb3⟩; obtain ⟨q0, q1⟩ := two_c (heap_below F5b.out hb3)))
      go_ret
      exact ⟨rfl, bch (bch hb1 (below_a1 hb2)) hb3⟩
    · have h0 : ¬ c < 0 := by omega
      go_enter Tryd.func3, Tryd.ntmps3
      go_wp2_with (first
        | (go_at_call 6; refine (hof _).mono ?_; rintro e w1 ⟨rfl, hb1⟩; have hT1 := Tabs_below hT hb1 (Nat.le_refl _); have F5 := Lib.hid (heap_alloc_new w1 (.cells #[.slice none 0 0, .int .i64 0] 27)))
        | (go_at_call 7; refine (awake5 _ (tabs_alloc hT1 _)).mono ?_; rintro e w2 ⟨rfl, hb2⟩; obtain ⟨p0, p1⟩ := two_c (heap_below F5.out hb2); have F5b := Lib.hid (heap_below F5.out hb2))
        | (go_at_call 8; refine (hsz _).mono ?_; rintro e w3 ⟨rfl, hb3⟩; obtain ⟨q0, q1⟩ := two_c (heap_below F5b.out hb3)))
      go_ret
      exact ⟨rfl, bch (bch hb1 (below_a1 hb2)) hb3⟩
  · obtain ⟨n, rfl⟩ := Int.eq_ofNat_of_zero_le (show 0 ≤ c by omega)
    exact Sets_in n (by omega) w hT
end Go.Proofs.YtpnjandlpbjddaaDoor
