/- The laws of layer 2, walked: PointPlain. -/
import Derived.Test.YtjepdpmkcajddaaDoorL2
namespace Go.Proofs.YtjepdpmkcajddaaDoor
open Go Go.RowKit
set_option maxRecDepth 100000

theorem textL_plain : ∀ (l : List UInt8), plainB l = true → textL (l.map fun b => (b.toNat : Int)) = l ∧ ∀ p ∈ l.map (fun b => (b.toNat : Int)), scalarB p = true
  | [], _ => ⟨rfl, by simp⟩
  | b :: l, h => by
    have hb : b.toNat < 128 ∧ plainB l = true := by simpa [plainB] using h
    obtain ⟨h1, h2⟩ := textL_plain l hb.2
    refine ⟨?_, ?_⟩
    · rw [List.map_cons, textL_cons, h1, enc_one (by omega) (by omega)]
      simp only [List.cons_append, List.nil_append, List.cons.injEq, and_true]
      exact u8_eq rfl
    · intro p hp
      rw [List.map_cons] at hp
      rcases List.mem_cons.1 hp with rfl | hp
      · rw [scalarB_iff]; omega
      · exact h2 p hp
theorem good_plain {s : ByteArray} (h : plainB s.data.toList = true) : ∃ ps, Good s ps ∧ ps.length = s.size :=
  ⟨_, ⟨(textL_plain _ h).1.symm, (textL_plain _ h).2⟩, by simp⟩

theorem Plain_b {s : ByteArray} {b : Bool} (h : plainB s.data.toList = b) (hs : s.size ≤ 140737488355328) (w : World) :
    Calls Tryd.prog 22 #[.string s] w fun e w' => e = .returned (.bool b) ∧ w = w' := by
  subst h; exact Plain_any s hs w
theorem Count_len {s : ByteArray} {ps : List Int} (hg : Good s ps) (hl : ps.length = s.size) (hs : s.size ≤ 140737488355328) (w : World) (hT : Tabs w) :
    Calls Tryd.prog 18 #[.string s] w fun e w' => e = .returned (.int .i64 s.size) ∧ Below w.heap.size w w' := by
  rw [← hl]; exact Count_good s ps hg hs w hT
def PlRel (s : ByteArray) (b i : Value) : Prop := ∃ k : Nat, k ≤ s.size ∧ i = .int .i64 k ∧ b = .bool (plainB (s.data.toList.take k))
theorem plain_law (s : ByteArray) (w : World) (hT : Tabs w) :
    Calls Tryd.prog 7 #[.string s] w fun e w' => e = .returned (.bool true) ∧ Below w.heap.size w w' := by
  by_cases hs : s.size ≤ 2000
  · go_enter Tryd.func7, Tryd.ntmps7
    go_wp2
    go_loop [3, 11] (fun b i => PlRel s b i) (fun _ i => s.size - (intOf i).toNat)
    case atStart => exact ⟨0, Nat.zero_le _, rfl, rfl⟩
    case round =>
      obtain ⟨k, hk, rfl, rfl⟩ := hrel
      by_cases hlt : k < s.size
      · have Hs := Lib.hid (take_succ_getD s k hlt)
        have hb := (s[k]).toNat_lt
        obtain ⟨x, hx⟩ : ∃ x, plainB (s.data.toList.take k) = x := ⟨_, rfl⟩
        have Hx := Lib.hid hx
        rw [hx]
        clear hx
        cases x
        all_goals
          go_wp2
          go_round
          case rel =>
            refine ⟨k + 1, by omega, by go_num, ?_⟩
            rw [Hs.out, plainB_snoc, Hx.out]
            first | (simp; done) | (simp; omega)
          case measure => simp [intOf]; omega
      · have hk2 : k = s.size := by omega
        subst hk2
        rw [List.take_of_length_le (by simp)]
        cases hp : plainB s.data.toList with
        | true =>
          obtain ⟨ps, hg, hl⟩ := good_plain hp
          have HL := Lib.hid hl
          have HP := Lib.hid hp
          clear hlt hl hp
          go_wp2_with (first | (go_at_call 11; refine (awake_t _ hT).mono ?_; rintro e w1 ⟨rfl, hb1⟩; have hz1 := hb1.size; have hT1 := Tabs_below hT hb1 (Nat.le_refl _)) | (go_at_call 22; refine (Plain_b HP.out (by omega) _).mono ?_; rintro e w2 ⟨rfl, rfl⟩) | (go_at_call 19; refine (Valid_good s ps hg (by omega) _ hT1).mono ?_; rintro e w3 ⟨rfl, hb3⟩; have hB3 := hb1.trans (hb3.mono hz1); have hz3 := hB3.size; have hT3 := Tabs_below hT hB3 (Nat.le_refl _)) | (go_at_call 18; refine (Count_len hg HL.out (by omega) _ hT3).mono ?_; rintro e w4 ⟨rfl, hb4⟩; have hB4 := hB3.trans (hb4.mono hz3)))
          go_ret
          exact ⟨rfl, hB4⟩
        | false =>
          have HP := Lib.hid hp
          clear hlt hp
          go_wp2_with (first | (go_at_call 11; refine (awake_t _ hT).mono ?_; rintro e w1 ⟨rfl, hb1⟩) | (go_at_call 22; refine (Plain_b HP.out (by omega) _).mono ?_; rintro e w2 ⟨rfl, rfl⟩))
          go_ret
          exact ⟨rfl, hb1⟩
  · have hl2 : 2000 < s.size := by omega
    clear hs
    go_enter Tryd.func7, Tryd.ntmps7
    go_wp2_with (go_at_call 11; refine (awake_t _ hT).mono ?_; rintro e w9 ⟨rfl, hb9⟩)
    go_ret
    exact ⟨rfl, hb9⟩
end Go.Proofs.YtjepdpmkcajddaaDoor
