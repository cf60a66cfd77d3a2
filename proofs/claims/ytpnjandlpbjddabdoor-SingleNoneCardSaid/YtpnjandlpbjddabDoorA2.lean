/- Contracts: the document's signs (diacriticref02: Scalar, Bytes, more) and point.Scalar. -/
import Derived.Test.YtpnjandlpbjddabDoorRows
import Derived.Test.YtpnjandlpbjddabDoorLaws
import Derived.Test.YtpnjandlpbjddabDoorMathU
import Derived.WalkKit
import Derived.WalkSpells
import Derived.Outline
namespace Go.Proofs.YtpnjandlpbjddabDoor
open Go Go.RowKit

theorem scalar_t {p : Int} (h : scalarB p = true) : 0 ≤ p ∧ p ≤ 1114111 ∧ (p < 55296 ∨ 57343 < p) := scalarB_iff.1 h
theorem Scalar_any (p : Int) (w : World) :
    Calls Tryd.prog 64 #[.int .i32 p] w fun e w' => e = .returned (.bool (scalarB p)) ∧ w = w' := by
  go_enter Tryd.func64, Tryd.ntmps64
  go_wp2
  all_goals (go_ret; exact ⟨ret_bool (by rw [Bool.eq_iff_iff, scalarB_iff]; simp; try omega), rfl⟩)
theorem RScalar_any (p : Int) (w : World) :
    Calls Tryd.prog 79 #[.int .i32 p] w fun e w' => e = .returned (.bool (scalarB p)) ∧ w = w' := by
  go_enter Tryd.func79, Tryd.ntmps79
  go_wp2
  all_goals (go_ret; exact ⟨ret_bool (by rw [Bool.eq_iff_iff, scalarB_iff]; simp; try omega), rfl⟩)

theorem RBytes_any {p : Int} (h : scalarB p = true) (w : World) :
    Calls Tryd.prog 80 #[.int .i32 p] w fun e w' => e = .returned (.string ⟨(Lib.encodeRune p).toArray⟩) ∧ Below w.heap.size w w' := by
  have k1 := conv1 (P := Tryd.prog) 51 9 5 Tryd.underlying51 Tryd.underlying5 Tryd.underlying9
  have k2 := conv2 (P := Tryd.prog) 51 9 5 Tryd.underlying51 Tryd.underlying5 Tryd.underlying9
  have k3 := conv3 (P := Tryd.prog) 51 9 5 Tryd.underlying51 Tryd.underlying5 Tryd.underlying9
  have k4 := conv4 (P := Tryd.prog) 51 9 5 Tryd.underlying51 Tryd.underlying5 Tryd.underlying9
  have H := Lib.hid (strOfNums_enc p)
  have D := Lib.hid (four_cases h)
  have hp := scalar_t h
  obtain ⟨g0, g1, _⟩ := hp
  clear h
  go_enter Tryd.func80, Tryd.ntmps80
  go_wp2
  all_goals go_ret
  all_goals
    refine ⟨ret_str ?_, (Below.refl _ _).alloc (Nat.le_refl _) _⟩
    rw [← H.out]
    first
      | rw [Lib.encodeRuneZ_one (by omega) (by omega)]
      | rw [Lib.encodeRuneZ_two (by omega) (by omega)]
      | rw [Lib.encodeRuneZ_three (by omega)]
      | rw [Lib.encodeRuneZ_four (by omega) (by omega)]

/-- The six bits of a byte that goes on; -1. -/
def moreZ (l : List UInt8) (i : Nat) : Int := if l.length ≤ i then -1 else if (l.getD i 0).toNat < 128 ∨ 191 < (l.getD i 0).toNat then -1 else (l.getD i 0).toNat - 128
theorem getD_size (s : ByteArray) (i : Nat) (h : i < s.size) : s.data.toList.getD i 0 = s[i] := by
  have h2 : i < s.data.toList.length := by simpa using h
  simp [List.getD, List.getElem?_eq_getElem h2]
  rfl
theorem more_any (s : ByteArray) (i : Int) (h0 : 0 ≤ i) (w : World) :
    Calls Tryd.prog 78 #[.string s, .int .i64 i] w fun e w' => e = .returned (.int .i32 (moreZ s.data.toList i.toNat)) ∧ w = w' := by
  obtain ⟨k, rfl⟩ := Int.eq_ofNat_of_zero_le h0
  rw [Int.toNat_natCast]
  by_cases hk : k < s.size
  · have hg := Lib.hid (getD_size s k hk)
    have hl : Hid (s.data.toList.length = s.size) := by simp [Hid]
    have hb := (s[k]).toNat_lt
    go_enter Tryd.func78, Tryd.ntmps78
    go_wp2
    all_goals go_ret
    all_goals
      refine ⟨ret_int ?_, rfl⟩
      unfold moreZ
      rw [hg.out, hl.out, if_neg (by omega)]
      first | rw [if_pos (by omega)] | rw [if_neg (by omega)]
  · have hl : Hid (s.data.toList.length = s.size) := by simp [Hid]
    go_enter Tryd.func78, Tryd.ntmps78
    go_wp2
    go_ret
    refine ⟨ret_int ?_, rfl⟩
    unfold moreZ
    rw [hl.out, if_pos (by omega)]
end Go.Proofs.YtpnjandlpbjddabDoor
