/- Contracts of big5.at, big5.cell, big5.second, for every list in base sixteen; condition: the list is short. -/
import Derived.Test.YtnalckiibcbgoaaBM
import Derived.Test.YtnalckiibcbgoaaP5
import Derived.Lib.EndianBits
set_option maxRecDepth 100000
set_option maxHeartbeats 1000000
namespace Go.Proofs.Ytnalckiibcbgoaa
open Go Go.RowKit

theorem i32_or4 {x y : Int} (hy₀ : 0 ≤ y) (hy : y < 16) (hx₀ : 0 ≤ x) (hx : x < 134217728) : bits .or .i32 (x * 16) y = x * 16 + y :=
  bits_join .i32 31 (by decide) (fun n h0 h1 => by simp [IntKind.wrap, IntKind.bits, IntKind.signed]; omega) 4 (x * 16) y (by omega) (by omega) (by omega) hy₀ hy (by omega)

theorem Cell_any (b : Int) (hb : -1000 ≤ b ∧ b ≤ 1000) (w : World) :
    Calls Try.prog 26 #[.int .i64 b] w fun e w' => e = .returned (.int .i64 (cellZ b)) ∧ w = w' := by
  have h0 := hb.1
  have h1 := hb.2
  go_enter Try.func26, Try.ntmps26
  go_wp2
  all_goals go_ret
  all_goals refine ⟨ret_int ?_, rfl⟩
  all_goals unfold cellZ
  all_goals repeat' split
  all_goals omega
theorem Second_any (c : Int) (hc : -1000 ≤ c ∧ c ≤ 1000) (w : World) :
    Calls Try.prog 25 #[.int .i64 c] w fun e w' => e = .returned (.int .i64 (secondZ c)) ∧ w = w' := by
  have h0 := hc.1
  have h1 := hc.2
  go_enter Try.func25, Try.ntmps25
  go_wp2
  all_goals go_ret
  all_goals refine ⟨ret_int ?_, rfl⟩
  all_goals unfold secondZ
  all_goals repeat' split
  all_goals omega

/-- The text s is the list ps in base sixteen. -/
def Hex (s : ByteArray) (ps : List Int) : Prop := s.data.toList = hexL ps ∧ SmallP ps
theorem Hex.size {s : ByteArray} {ps : List Int} (h : Hex s ps) : s.size = 5 * ps.length := by
  rw [← hexL_len, ← h.1]; simp
theorem Hex.digit {s : ByteArray} {ps : List Int} (h : Hex s ps) {k j m : Nat} (hm : m = 5 * k) (hk : k < ps.length) (hj : j < 5) (hi : m + j < s.size) : (cellL (ps.getD k 0))[j]? = some s[m + j] := by
  subst hm
  rw [← hexL_at ps k j hk hj, ← h.1]
  have hl : 5 * k + j < s.data.toList.length := by simpa using hi
  rw [List.getElem?_eq_getElem hl]
  rfl
theorem Digit_any (d : Int) (c : UInt8) (hd : 0 ≤ d ∧ d < 16) (hc : c = hexD d) (w : World) :
    Calls Try.prog 39 #[.string ⟨#[48, 49, 50, 51, 52, 53, 54, 55, 56, 57, 65, 66, 67, 68, 69, 70]⟩, .int .u8 (c.toNat : Int)] w fun e w' => e = .returned (.int .i64 d) ∧ w = w' := by
  refine (Try.strings_IndexByte _ _ w).mono ?_
  rintro e w' ⟨rfl, rfl⟩
  refine ⟨ret_int ?_, rfl⟩
  have e1 : ((c.toNat : Int)).toNat.toUInt8 = c := u8_eq rfl
  rw [e1, hc]
  exact hexD_index hd.1 hd.2
end Go.Proofs.Ytnalckiibcbgoaa
