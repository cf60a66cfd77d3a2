/- Contract of big5.find, for every list in base sixteen; condition: the list has at most 100,000 bytes; the cell of the library's MaxLen holds some int. -/
import Derived.Test.YtnalckiibcbgoaaB1
set_option maxRecDepth 100000
set_option maxHeartbeats 1000000
namespace Go.Proofs.Ytnalckiibcbgoaa
open Go Go.RowKit

theorem i32_and15 {x : Int} (h0 : 0 ≤ x) (h1 : x ≤ 65535) : bits .and .i32 x 15 = x % 16 :=
  bits_mask .i32 31 (by decide) (fun n h0 h1 => by simp [IntKind.wrap, IntKind.bits, IntKind.signed]; omega) 4 (by decide) x h0 (by omega)
theorem hexD_lit {n : Int} (h : 0 ≤ n ∧ n < 16) {hi : n.toNat < (⟨#[48, 49, 50, 51, 52, 53, 54, 55, 56, 57, 65, 66, 67, 68, 69, 70]⟩ : ByteArray).size} :
    (⟨#[48, 49, 50, 51, 52, 53, 54, 55, 56, 57, 65, 66, 67, 68, 69, 70]⟩ : ByteArray)[n.toNat] = hexD n := by
  rcases small16 h.1 h.2 with rfl | rfl | rfl | rfl | rfl | rfl | rfl | rfl | rfl | rfl | rfl | rfl | rfl | rfl | rfl | rfl <;> rfl
theorem strOfNums_cell (p : Int) : strOfNums [((hexD (p / 4096)).toNat : Int), (hexD (p / 256 % 16)).toNat, (hexD (p / 16 % 16)).toNat, (hexD (p % 16)).toNat, 32] = ⟨(cellL p).toArray⟩ := by
  have e : ∀ c : UInt8, ((c.toNat : Int)).toNat.toUInt8 = c := fun c => u8_eq rfl
  simp only [strOfNums, List.map_cons, List.map_nil, e, cellL]
  rfl
theorem conv_cell (p : Int) (w : World) : (convert 31 9 (.slice (some ⟨w.heap.size, 0, none⟩) 5 5)).run Try.prog (w.alloc (.cells #[.int .u8 (hexD (p / 4096)).toNat, .int .u8 (hexD (p / 256 % 16)).toNat, .int .u8 (hexD (p / 16 % 16)).toNat, .int .u8 (hexD (p % 16)).toNat, .int .u8 32] 5)).drew = .ok (.string ⟨(cellL p).toArray⟩) (w.alloc (.cells #[.int .u8 (hexD (p / 4096)).toNat, .int .u8 (hexD (p / 256 % 16)).toNat, .int .u8 (hexD (p / 16 % 16)).toNat, .int .u8 (hexD (p % 16)).toNat, .int .u8 32] 5)).drew := by
  have hcv := conv_nums (P := Try.prog) 31 9 5 Try.underlying31 Try.underlying5 Try.underlying9 _ (Reads.drew (nums_new w 5 [((hexD (p / 4096)).toNat : Int), (hexD (p / 256 % 16)).toNat, (hexD (p / 16 % 16)).toNat, (hexD (p % 16)).toNat, 32] .u8)) 5
  rw [strOfNums_cell] at hcv
  exact hcv
def findZ (ps : List Int) (p : Int) : Int := if p < 0 ∨ 65535 < p then -1 else fnd ps p
theorem Find_any (s : ByteArray) (ps : List Int) (h : Hex s ps) (p : Int) (hs : s.size ≤ 100000) (w : World) (m : Int) (hm : w.cell? ⟨0, 0, none⟩ = some (.int .i64 m)) :
    Calls Try.prog 24 #[.string s, .int .i32 p] w fun e w' => e = .returned (.int .i64 (findZ ps p)) ∧ Below w.heap.size w w' := by
  by_cases hp : p < 0 ∨ 65535 < p
  · have e : findZ ps p = -1 := by unfold findZ; rw [if_pos hp]
    rw [e]
    rcases hp with hp | hp
    · go_enter Try.func24, Try.ntmps24
      go_wp2_with fail
      go_ret
      exact ⟨rfl, Below.refl _ _⟩
    · have h0 : ¬ p < 0 := by omega
      go_enter Try.func24, Try.ntmps24
      go_wp2_with fail
      go_ret
      exact ⟨rfl, Below.refl _ _⟩
  · have e : findZ ps p = fnd ps p := by unfold findZ; rw [if_neg hp]
    rw [e]
    have hp' : 0 ≤ p ∧ p ≤ 65535 := by omega
    obtain ⟨p0, p1⟩ := hp'
    have hn0 : ¬ p < 0 := by omega
    have hn1 : ¬ 65535 < p := by omega
    obtain ⟨⟨q00, q01⟩, ⟨q10, q11⟩, ⟨q20, q21⟩, ⟨q30, q31⟩⟩ := cell_digits ⟨p0, p1⟩
    clear hp e
    have b1 : bits BinOp.and IntKind.i32 (p / 256) 15 = p / 256 % 16 := i32_and15 (by omega) (by omega)
    have b2 : bits BinOp.and IntKind.i32 (p / 16) 15 = p / 16 % 16 := i32_and15 (by omega) (by omega)
    have b3 : bits BinOp.and IntKind.i32 p 15 = p % 16 := i32_and15 (by omega) (by omega)
    go_enter Try.func24, Try.ntmps24
    go_wp2_with fail
    go_region
    simp only [hexD_lit ⟨q00, q01⟩, hexD_lit ⟨q10, q11⟩, hexD_lit ⟨q20, q21⟩, hexD_lit ⟨q30, q31⟩]
    have hx := index_hex ps p h.2 ⟨p0, p1⟩
    have hcv := conv_cell p w
    have hpos := World.block_lt_of_cell? _ _ hm
    have hge := fnd_ge ps p
    have hlt := fnd_lt ps p
    have hsz := h.size
    have hsm : s.size < 4294967281 := by omega
    have hcell : ((w.alloc (.cells #[.int .u8 (hexD (p / 4096)).toNat, .int .u8 (hexD (p / 256 % 16)).toNat, .int .u8 (hexD (p / 16 % 16)).toNat, .int .u8 (hexD (p % 16)).toNat, .int .u8 32] 5)).drew).cell? ⟨0, 0, none⟩ = some (.int .i64 m) := by
      show (w.alloc _).cell? _ = _
      rw [World.cell?_alloc_lt w _ _ hpos]
      exact hm
    go_wp2_with (first | (go_at_call 38; refine (Try.strings_Index s ⟨(cellL p).toArray⟩ m _ hsm hcell).mono ?_; rintro e w1 ⟨rfl, rfl⟩))
    all_goals go_ret
    all_goals refine ⟨ret_int ?_, ((Below.refl _ w).alloc (Nat.le_refl _) _).drew⟩
    all_goals rename_i hq
    all_goals simp only [h.1, hx] at hq ⊢
    · by_cases hz : fnd ps p = -1
      · omega
      · rw [if_neg hz] at hq
        omega
    · by_cases hz : fnd ps p = -1
      · rw [if_pos hz] at hq
        omega
      · rw [if_neg hz, Int.mul_tdiv_cancel_left _ (by decide)]
        unfold wrap64
        omega
end Go.Proofs.Ytnalckiibcbgoaa
