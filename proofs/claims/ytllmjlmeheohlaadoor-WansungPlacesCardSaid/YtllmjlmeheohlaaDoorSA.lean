/- Contracts of wansung.at, wansung.find, for every list in base sixteen; condition: the list has at most 100,000 bytes; the cell of the library's MaxLen holds some int. -/
import Derived.Test.YtllmjlmeheohlaaDoorSP
import Derived.Lib.EndianBits
set_option maxRecDepth 100000
set_option maxHeartbeats 1000000
namespace Go.Proofs.YtllmjlmeheohlaaDoor
open Go Go.RowKit

theorem i32_or4 {x y : Int} (hy₀ : 0 ≤ y) (hy : y < 16) (hx₀ : 0 ≤ x) (hx : x < 134217728) : bits .or .i32 (x * 16) y = x * 16 + y :=
  bits_join .i32 31 (by decide) (fun n h0 h1 => by simp [IntKind.wrap, IntKind.bits, IntKind.signed]; omega) 4 (x * 16) y (by omega) (by omega) (by omega) hy₀ hy (by omega)

/-- The text s is the list ps in base sixteen. -/
def Hex (s : ByteArray) (ps : List Int) : Prop := s.data.toList = hexL ps ∧ SmallP ps
theorem Hex.size {s : ByteArray} {ps : List Int} (h : Hex s ps) : s.size = 5 * ps.length := by
  rw [← hexL_len, ← h.1]; simp
theorem Hex.digit {s : ByteArray} {ps : List Int} (h : Hex s ps) {k j m : Nat} (hm : m = 5 * k) (hk : k < ps.length) (hj : j < 5) (hi : m + j < s.size) : (cellL (ps.getD k 0))[j]? = some s[m + j] := by
  subst hm
  rw [← hexL_at ps k j hk hj, ← h.1]
  have hl : 5 * k + j < s.data.toList.length := by simpa using hi
  rw [List.getElem?_eq_getElem hl]
  rfl
theorem Digit_any (d : Int) (c : UInt8) (hd : 0 ≤ d ∧ d < 16) (hc : c = hexD d) (w : World) :
    Calls Tryd.prog 64 #[.string ⟨#[48, 49, 50, 51, 52, 53, 54, 55, 56, 57, 65, 66, 67, 68, 69, 70]⟩, .int .u8 (c.toNat : Int)] w fun e w' => e = .returned (.int .i64 d) ∧ w = w' := by
  refine (Tryd.strings_IndexByte _ _ w).mono ?_
  rintro e w' ⟨rfl, rfl⟩
  refine ⟨ret_int ?_, rfl⟩
  have e1 : ((c.toNat : Int)).toNat.toUInt8 = c := u8_eq rfl
  rw [e1, hc]
  exact hexD_index hd.1 hd.2

theorem At_out (s : ByteArray) (ps : List Int) (h : Hex s ps) (k : Int) (hk : k < 0 ∨ ps.length ≤ k) (hs : s.size ≤ 100000) (hkb : -100000 ≤ k ∧ k ≤ 100000) (w : World) :
    Calls Tryd.prog 49 #[.string s, .int .i64 k] w fun e w' => e = .returned (.tuple #[.int .i32 0, .bool false]) ∧ Below w.heap.size w w' := by
  have hsz := h.size
  have hdiv : (s.size : Int) / 5 = ps.length := by omega
  by_cases h0 : k < 0
  · go_enter Tryd.func49, Tryd.ntmps49
    go_wp2_with fail
    go_ret2
    exact ⟨rfl, Below.refl _ _⟩
  · have h1 : (s.size : Int) / 5 ≤ k := by omega
    clear hdiv
    go_enter Tryd.func49, Tryd.ntmps49
    go_wp2_with fail
    go_ret2
    exact ⟨rfl, Below.refl _ _⟩

theorem At_in (s : ByteArray) (ps : List Int) (h : Hex s ps) (k : Nat) (hk : k < ps.length) (hs : s.size ≤ 100000) (w : World) :
    Calls Tryd.prog 49 #[.string s, .int .i64 k] w fun e w' => e = .returned (.tuple #[.int .i32 (ps.getD k 0), .bool true]) ∧ Below w.heap.size w w' := by
  have hsz := h.size
  have hp := h.2 _ (getD_mem hk)
  have d0 := h.digit (j := 0) (m := 5 * k) rfl hk (by omega) (by omega)
  have d1 := h.digit (j := 1) (m := 5 * k) rfl hk (by omega) (by omega)
  have d2 := h.digit (j := 2) (m := 5 * k) rfl hk (by omega) (by omega)
  have d3 := h.digit (j := 3) (m := 5 * k) rfl hk (by omega) (by omega)
  generalize ps.getD k 0 = p at *
  obtain ⟨q0, q1, q2, q3⟩ := cell_digits hp
  simp [cellL] at d0 d1 d2 d3
  have D0 := fun w => Digit_any (p / 4096) s[5 * k] q0 d0.symm w
  have D1 := fun w => Digit_any (p / 256 % 16) s[5 * k + 1] q1 d1.symm w
  have D2 := fun w => Digit_any (p / 16 % 16) s[5 * k + 2] q2 d2.symm w
  have D3 := fun w => Digit_any (p % 16) s[5 * k + 3] q3 d3.symm w
  obtain ⟨q00, q01⟩ := q0
  obtain ⟨q10, q11⟩ := q1
  obtain ⟨q20, q21⟩ := q2
  obtain ⟨q30, q31⟩ := q3
  have hge : ¬ (s.size : Int) / 5 ≤ k := by omega
  have hm' : (k : Int) * 5 = 5 * (k : Int) := by omega
  have hmb : 5 * k + 3 < s.size := by omega
  have hA1 : (5 * (k : Int) + 1).toNat = 5 * k + 1 := by omega
  have hA2 : (5 * (k : Int) + 1 + 1).toNat = 5 * k + 2 := by omega
  have hA3 : (5 * (k : Int) + 1 + 1 + 1).toNat = 5 * k + 3 := by omega
  clear d0 d1 d2 d3 h
  go_enter Tryd.func49, Tryd.ntmps49
  go_wp2_with fail
  refine wp_loop_rounds 5 ?_
  rw [rounds_succ]
  go_wp2_with (first | (go_at_call 64; first | (refine (D0 _).mono ?_; clear D0; rintro e w' ⟨rfl, rfl⟩) | (refine (D1 _).mono ?_; clear D1; rintro e w' ⟨rfl, rfl⟩) | (refine (D2 _).mono ?_; clear D2; rintro e w' ⟨rfl, rfl⟩) | (refine (D3 _).mono ?_; clear D3; rintro e w' ⟨rfl, rfl⟩)))
  rw [rounds_succ]
  go_wp2_with (first | (go_at_call 64; first | (refine (D0 _).mono ?_; clear D0; rintro e w' ⟨rfl, rfl⟩) | (refine (D1 _).mono ?_; clear D1; rintro e w' ⟨rfl, rfl⟩) | (refine (D2 _).mono ?_; clear D2; rintro e w' ⟨rfl, rfl⟩) | (refine (D3 _).mono ?_; clear D3; rintro e w' ⟨rfl, rfl⟩)))
  rw [rounds_succ]
  go_wp2_with (first | (go_at_call 64; first | (refine (D0 _).mono ?_; clear D0; rintro e w' ⟨rfl, rfl⟩) | (refine (D1 _).mono ?_; clear D1; rintro e w' ⟨rfl, rfl⟩) | (refine (D2 _).mono ?_; clear D2; rintro e w' ⟨rfl, rfl⟩) | (refine (D3 _).mono ?_; clear D3; rintro e w' ⟨rfl, rfl⟩)))
  rw [rounds_succ]
  go_wp2_with (first | (go_at_call 64; first | (refine (D0 _).mono ?_; clear D0; rintro e w' ⟨rfl, rfl⟩) | (refine (D1 _).mono ?_; clear D1; rintro e w' ⟨rfl, rfl⟩) | (refine (D2 _).mono ?_; clear D2; rintro e w' ⟨rfl, rfl⟩) | (refine (D3 _).mono ?_; clear D3; rintro e w' ⟨rfl, rfl⟩)))
  rw [rounds_succ]
  go_wp2_with fail
  go_ret2
  refine ⟨?_, Below.refl _ _⟩
  have e : ∀ x : Int, x = p → Ending.returned (.tuple #[.int .i32 x, .bool true]) = .returned (.tuple #[.int .i32 p, .bool true]) := fun x hx => by rw [hx]
  refine e _ ?_
  have f1 : wrap32 ((p / 4096 * 16 + p / 256 % 16) * 16) = p / 256 * 16 := by unfold wrap32; omega
  have f2 : wrap32 ((p / 256 * 16 + p / 16 % 16) * 16) = p / 16 * 16 := by unfold wrap32; omega
  rw [i32_or4 (by omega) (by omega) (by omega) (by omega), f1, i32_or4 (by omega) (by omega) (by omega) (by omega), f2, i32_or4 (by omega) (by omega) (by omega) (by omega)]
  omega

theorem i32_and15 {x : Int} (h0 : 0 ≤ x) (h1 : x ≤ 65535) : bits .and .i32 x 15 = x % 16 :=
  bits_mask .i32 31 (by decide) (fun n h0 h1 => by simp [IntKind.wrap, IntKind.bits, IntKind.signed]; omega) 4 (by decide) x h0 (by omega)
theorem hexD_lit {n : Int} (h : 0 ≤ n ∧ n < 16) {hi : n.toNat < (⟨#[48, 49, 50, 51, 52, 53, 54, 55, 56, 57, 65, 66, 67, 68, 69, 70]⟩ : ByteArray).size} :
    (⟨#[48, 49, 50, 51, 52, 53, 54, 55, 56, 57, 65, 66, 67, 68, 69, 70]⟩ : ByteArray)[n.toNat] = hexD n := by
  rcases small16 h.1 h.2 with rfl | rfl | rfl | rfl | rfl | rfl | rfl | rfl | rfl | rfl | rfl | rfl | rfl | rfl | rfl | rfl <;> rfl
theorem strOfNums_cell (p : Int) : strOfNums [((hexD (p / 4096)).toNat : Int), (hexD (p / 256 % 16)).toNat, (hexD (p / 16 % 16)).toNat, (hexD (p % 16)).toNat, 32] = ⟨(cellL p).toArray⟩ := by
  have e : ∀ c : UInt8, ((c.toNat : Int)).toNat.toUInt8 = c := fun c => u8_eq rfl
  simp only [strOfNums, List.map_cons, List.map_nil, e, cellL]
  rfl
theorem conv_cell (p : Int) (w : World) : (convert 37 9 (.slice (some ⟨w.heap.size, 0, none⟩) 5 5)).run Tryd.prog (w.alloc (.cells #[.int .u8 (hexD (p / 4096)).toNat, .int .u8 (hexD (p / 256 % 16)).toNat, .int .u8 (hexD (p / 16 % 16)).toNat, .int .u8 (hexD (p % 16)).toNat, .int .u8 32] 5)).drew = .ok (.string ⟨(cellL p).toArray⟩) (w.alloc (.cells #[.int .u8 (hexD (p / 4096)).toNat, .int .u8 (hexD (p / 256 % 16)).toNat, .int .u8 (hexD (p / 16 % 16)).toNat, .int .u8 (hexD (p % 16)).toNat, .int .u8 32] 5)).drew := by
  have hcv := conv_nums (P := Tryd.prog) 37 9 5 Tryd.underlying37 Tryd.underlying5 Tryd.underlying9 _ (Reads.drew (nums_new w 5 [((hexD (p / 4096)).toNat : Int), (hexD (p / 256 % 16)).toNat, (hexD (p / 16 % 16)).toNat, (hexD (p % 16)).toNat, 32] .u8)) 5
  rw [strOfNums_cell] at hcv
  exact hcv
def findZ (ps : List Int) (p : Int) : Int := if p < 0 ∨ 65535 < p then -1 else fnd ps p
theorem Find_any (s : ByteArray) (ps : List Int) (h : Hex s ps) (p : Int) (hs : s.size ≤ 100000) (w : World) (m : Int) (hm : w.cell? ⟨1, 0, none⟩ = some (.int .i64 m)) :
    Calls Tryd.prog 43 #[.string s, .int .i32 p] w fun e w' => e = .returned (.int .i64 (findZ ps p)) ∧ Below w.heap.size w w' := by
  by_cases hp : p < 0 ∨ 65535 < p
  · have e : findZ ps p = -1 := by unfold findZ; rw [if_pos hp]
    rw [e]
    rcases hp with hp | hp
    · go_enter Tryd.func43, Tryd.ntmps43
      go_wp2_with fail
      go_ret
      exact ⟨rfl, Below.refl _ _⟩
    · have h0 : ¬ p < 0 := by omega
      go_enter Tryd.func43, Tryd.ntmps43
      go_wp2_with fail
      go_ret
      exact ⟨rfl, Below.refl _ _⟩
  · have e : findZ ps p = fnd ps p := by unfold findZ; rw [if_neg hp]
    rw [e]
    have hp' : 0 ≤ p ∧ p ≤ 65535 := by omega
    obtain ⟨p0, p1⟩ := hp'
    have hn0 : ¬ p < 0 := by omega
    have hn1 : ¬ 65535 < p := by omega
    obtain ⟨⟨q00, q01⟩, ⟨q10, q11⟩, ⟨q20, q21⟩, ⟨q30, q31⟩⟩ := cell_digits ⟨p0, p1⟩
    clear hp e
    have b1 : bits BinOp.and IntKind.i32 (p / 256) 15 = p / 256 % 16 := i32_and15 (by omega) (by omega)
    have b2 : bits BinOp.and IntKind.i32 (p / 16) 15 = p / 16 % 16 := i32_and15 (by omega) (by omega)
    have b3 : bits BinOp.and IntKind.i32 p 15 = p % 16 := i32_and15 (by omega) (by omega)
    go_enter Tryd.func43, Tryd.ntmps43
    go_wp2_with fail
    go_region
    simp only [hexD_lit ⟨q00, q01⟩, hexD_lit ⟨q10, q11⟩, hexD_lit ⟨q20, q21⟩, hexD_lit ⟨q30, q31⟩]
    have hx := index_hex ps p h.2 ⟨p0, p1⟩
    have hcv := conv_cell p w
    have hpos := World.block_lt_of_cell? _ _ hm
    have hge := fnd_ge ps p
    have hlt := fnd_lt ps p
    have hsz := h.size
    have hsm : s.size < 4294967281 := by omega
    have hcell : ((w.alloc (.cells #[.int .u8 (hexD (p / 4096)).toNat, .int .u8 (hexD (p / 256 % 16)).toNat, .int .u8 (hexD (p / 16 % 16)).toNat, .int .u8 (hexD (p % 16)).toNat, .int .u8 32] 5)).drew).cell? ⟨1, 0, none⟩ = some (.int .i64 m) := by
      show (w.alloc _).cell? _ = _
      rw [World.cell?_alloc_lt w _ _ hpos]
      exact hm
    go_wp2_with (first | (go_at_call 57; refine (Tryd.strings_Index s ⟨(cellL p).toArray⟩ m _ hsm hcell).mono ?_; rintro e w1 ⟨rfl, rfl⟩))
    all_goals go_ret
    all_goals refine ⟨ret_int ?_, ((Below.refl _ w).alloc (Nat.le_refl _) _).drew⟩
    all_goals rename_i hq
    all_goals simp only [h.1, hx] at hq ⊢
    · by_cases hz : fnd ps p = -1
      · omega
      · rw [if_neg hz] at hq
        omega
    · by_cases hz : fnd ps p = -1
      · rw [if_pos hz] at hq
        omega
      · rw [if_neg hz, Int.mul_tdiv_cancel_left _ (by decide)]
        unfold wrap64
        omega
end Go.Proofs.YtllmjlmeheohlaaDoor
