/- The examples of layers 22 and 26 hold; no condition. -/
import Derived.Test.YtlcgfgbdehdndaaDoorYP
set_option maxRecDepth 100000
set_option maxHeartbeats 2000000
namespace Go.Proofs.YtlcgfgbdehdndaaDoor
open Go Go.RowKit

theorem bch {w w1 w2 : World} (h1 : Below w.heap.size w w1) (h2 : Below w1.heap.size w1 w2) : Below w.heap.size w w2 := h1.trans (h2.mono h1.size)
def l22 : List UInt8 := [97, 13, 10, 10, 98]
theorem lines22 : linesL l22 = [([97], [13, 10], 0), ([], [10], 3), ([98], [], 4)] := by decide +kernel
theorem Lines22 (w : World) :
    Calls Tryd.prog 35 #[.string ⟨#[97, 13, 10, 10, 98]⟩] w fun e w' => ∃ bk c, e = .returned (.slice (some ⟨bk, 0, none⟩) 3 c) ∧ 3 ≤ c ∧ bk < w'.heap.size ∧ (∀ j u, ([.string ⟨#[97]⟩, .string ⟨#[13, 10]⟩, .int .i64 0, .string ⟨#[]⟩, .string ⟨#[10]⟩, .int .i64 3, .string ⟨#[98]⟩, .string ⟨#[]⟩, .int .i64 4] : List Value)[j]? = some u → w'.cell? ⟨bk, j, none⟩ = some u) ∧ Below w.heap.size w w' := by
  refine (Lines_any ⟨#[97, 13, 10, 10, 98]⟩ (by decide) w).mono ?_
  rintro e w' ⟨v, rfl, hr, hb⟩
  have : linesL (ByteArray.mk #[97, 13, 10, 10, 98]).data.toList = [([97], [13, 10], 0), ([], [10], 3), ([98], [], 4)] := lines22
  rw [this] at hr
  rcases hr with ⟨h, _⟩ | ⟨bk, c, _, rfl, h2, h3, h4⟩
  · simp at h
  · exact ⟨bk, c, rfl, h2, h3, h4, hb⟩
theorem Mark_ab (w : World) (T : TypeId) :
    Calls Tryd.prog 26 #[.slice (some ⟨w.heap.size, 0, none⟩) 2 2] (w.alloc (.cells #[.string ⟨#[97]⟩, .string ⟨#[98]⟩] T)) fun e w' => e = .returned (.agg #[.bool true, .string ⟨#[109, 97, 114, 107]⟩, .string ⟨#[97, 98]⟩]) ∧ Below w.heap.size w w' := by
  refine (Mark_any w.heap.size 2 [[97], [98]] _ ?_ (by simp) (by simp) (by simp) (by simp)).mono ?_
  · intro j x hx
    have e := heap_alloc_new w (.cells #[.string ⟨#[97]⟩, .string ⟨#[98]⟩] T)
    rw [cell_of_row _ w.heap.size j _ T (0, 0) e]
    match j, hx with
    | 0, hx => simp at hx; subst hx; rfl
    | 1, hx => simp at hx; subst hx; rfl
    | j + 2, hx => simp at hx
  · rintro e w' ⟨rfl, hb⟩
    exact ⟨rfl, below_a1 hb⟩
theorem Whole_ab (w : World) (T : TypeId) :
    Calls Tryd.prog 9 #[.slice (some ⟨w.heap.size, 0, none⟩) 2 2] (w.alloc (.cells #[.bool true, .string ⟨#[109, 97, 114, 107]⟩, .string ⟨#[97, 98]⟩, .bool false, .string ⟨#[120]⟩, .string ⟨#[99]⟩] T)) fun e w' => e = .returned (.string ⟨#[97, 98, 99]⟩) ∧ Below w.heap.size w w' := by
  refine (Whole_any _ [(true, nMark, [97, 98]), (false, [120], [99])] _ (.inr ⟨w.heap.size, 2, by simp, rfl, by simp, by simp, ?_⟩) (by simp) (by simp [wholeL])).mono ?_
  · intro j u hu
    have e := heap_alloc_new w (.cells #[.bool true, .string ⟨#[109, 97, 114, 107]⟩, .string ⟨#[97, 98]⟩, .bool false, .string ⟨#[120]⟩, .string ⟨#[99]⟩] T)
    rw [cell_of_row _ w.heap.size j _ T (0, 0) e, ← hu]
    match j with
    | 0 => rfl
    | 1 => rfl
    | 2 => rfl
    | 3 => rfl
    | 4 => rfl
    | 5 => rfl
    | j + 6 => simp [pcV]
  · rintro e w' ⟨rfl, hb⟩
    exact ⟨rfl, below_a1 hb⟩
theorem Awake22 (w : World) :
    Calls Tryd.prog 22 #[] w fun e w' => e = .returned (.bool true) ∧ Below w.heap.size w w' := by
  have hl := fun w => Like_any ⟨#[49, 58, 50, 51]⟩ ⟨#[48, 58, 48, 48]⟩ (by decide) w
  have q1 : likeB (ByteArray.mk #[49, 58, 50, 51]).data.toList (ByteArray.mk #[48, 58, 48, 48]).data.toList = true := by decide +kernel
  simp only [q1] at hl
  go_enter Tryd.func22, Tryd.ntmps22
  go_wp2_with (first | (go_at_call 35; refine (Lines22 _).mono ?_; rintro e w1 ⟨bk, c, rfl, hc3, hbk, hcell, hb1⟩) | (go_at_call 36; refine (Awake01 _).mono ?_; rintro e w2 ⟨rfl, hb2⟩; have hbk2 : bk < w2.heap.size := Nat.lt_of_lt_of_le hbk hb2.size; have hc2 : ∀ j u, ([.string ⟨#[97]⟩, .string ⟨#[13, 10]⟩, .int .i64 0, .string ⟨#[]⟩, .string ⟨#[10]⟩, .int .i64 3, .string ⟨#[98]⟩, .string ⟨#[]⟩, .int .i64 4] : List Value)[j]? = some u → w2.cell? ⟨bk, j, none⟩ = some u := fun j u hu => (hb2.cell (p := ⟨bk, j, none⟩) hbk).trans (hcell j u hu); have e0 := hc2 0 _ rfl; have e1 := hc2 1 _ rfl; have e2 := hc2 2 _ rfl; have e3 := hc2 3 _ rfl; have e4 := hc2 4 _ rfl; have e5 := hc2 5 _ rfl; have e6 := hc2 6 _ rfl; have e7 := hc2 7 _ rfl; have e8 := hc2 8 _ rfl) | (go_at_call 37; refine (hl _).mono ?_; rintro e w3 ⟨rfl, hb3⟩) | (go_at_call 26; refine (Mark_ab _ _).mono ?_; rintro e w4 ⟨rfl, hb4⟩) | (go_at_call 27; refine (Text_any _ _ _).mono ?_; rintro e w5 ⟨rfl, hb5⟩) | (go_at_call 9; refine (Whole_ab _ _).mono ?_; rintro e w6 ⟨rfl, hb6⟩))
  go_ret
  exact ⟨rfl, bch (bch (bch (bch (bch hb1 hb2) hb3) hb4) hb5) hb6⟩
theorem old2 {w w1 : World} {T : TypeId} {a b : Value} (hb : Below (w.alloc (.cells #[a, b] T)).heap.size (w.alloc (.cells #[a, b] T)) w1) {bk o : Nat} {v : Value} (h : bk < w.heap.size) (hc : w.cell? ⟨bk, o, none⟩ = some v) : w1.cell? ⟨bk, o, none⟩ = some v :=
  (hb.cell (p := ⟨bk, o, none⟩) (by simp; omega)).trans ((World.cell?_alloc_lt w _ _ h).trans hc)
def t26 : List UInt8 := [91, 48, 48, 58, 48, 49, 46, 48, 48, 93, 91, 48, 48, 58, 48, 50, 93, 108, 97, 10, 91, 116, 105, 58, 120, 93]
theorem walk26 : walkL lrcL (linesL t26) = .inl [mk [91, 48, 48, 58, 48, 49, 46, 48, 48, 93], mk [91, 48, 48, 58, 48, 50, 93], (false, nText, [108, 97]), mk [10], mk [91, 116, 105, 58], (false, [116, 105], [120]), mk [93]] := by decide +kernel
end Go.Proofs.YtlcgfgbdehdndaaDoor
