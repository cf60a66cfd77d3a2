/- Contracts of package wide: unit and sign, for every place of every string; condition: the place fits. -/
import Derived.Test.YtblcknhkjkcmjaaDoorP6
import Derived.Test.YtblcknhkjkcmjaaDoorWideM
import Derived.Lib.EndianBits
set_option maxRecDepth 100000
set_option maxHeartbeats 1000000
namespace Go.Proofs.YtblcknhkjkcmjaaDoor
open Go Go.RowKit

theorem i32_or8 {x y : Int} (hy₀ : 0 ≤ y) (hy : y < 256) (hx₀ : 0 ≤ x) (hx : x < 8388608) : bits .or .i32 (x * 256) y = x * 256 + y :=
  bits_join .i32 31 (by decide) (fun n h0 h1 => by simp [IntKind.wrap, IntKind.bits, IntKind.signed]; omega) 8 (x * 256) y (by omega) (by omega) (by omega) hy₀ hy (by omega)

theorem Unit_any (s : ByteArray) (i : Nat) (hi : i + 1 < s.size) (hs : s.size ≤ 140737488355328) (big : Bool) (w : World) :
    Calls Tryd.prog 80 #[.string s, .int .i64 i, .bool big] w fun e w' => e = .returned (.int .i32 (unitB big s[i] s[i+1])) ∧ Below w.heap.size w w' := by
  have h0 := (s[i]).toNat_lt
  have h1 := (s[i+1]).toNat_lt
  have hi0 : i < s.size := by omega
  have hA : 0 ≤ (i : Int) + 1 ∧ (i : Int) + 1 < (s.size : Int) := by omega
  have hA1 : 0 ≤ (i : Int) + 1 := by omega
  have hA2 : (i : Int) + 1 < (s.size : Int) := by omega
  have hA3 : ((i : Int) + 1).toNat = i + 1 := by omega
  go_enter Tryd.func80, Tryd.ntmps80
  cases big
  · go_wp2_with fail
    go_region
    go_wp2_with fail
    go_ret
    exact ⟨ret_int (by rw [i32_or8 (by omega) (by omega) (by omega) (by omega)]; simp [unitB]), (Below.refl _ _).drew⟩
  · go_wp2_with fail
    go_region
    go_wp2_with fail
    go_ret
    exact ⟨ret_int (by rw [i32_or8 (by omega) (by omega) (by omega) (by omega)]; simp [unitB]), (Below.refl _ _).drew⟩

theorem drop_two (s : ByteArray) (i : Nat) (hi : i + 1 < s.size) : s.data.toList.drop i = s[i] :: s[i+1] :: s.data.toList.drop (i + 2) := by
  have h0 : i < s.data.toList.length := by simpa using (by omega : i < s.size)
  have h1 : i + 1 < s.data.toList.length := by simpa using hi
  rw [List.drop_eq_getElem_cons h0, List.drop_eq_getElem_cons h1]
  rfl
theorem short_drop (s : ByteArray) (i : Nat) : (s.data.toList.drop i).length = s.size - i := by simp

theorem wsign_low {big : Bool} {a b : UInt8} {r : List UInt8} (h : unitB big a b < 55296 ∨ 57344 ≤ unitB big a b) : wsign big (a :: b :: r) = (unitB big a b, 2) := by
  simp only [wsign, if_pos h]
theorem wsign_mid {big : Bool} {a b : UInt8} {r : List UInt8} (h : ¬ (unitB big a b < 55296 ∨ 57344 ≤ unitB big a b)) (h2 : 56320 ≤ unitB big a b) : wsign big (a :: b :: r) = (0, 0) := by
  simp only [wsign, if_neg h, if_pos h2]
theorem wsign_short {big : Bool} {a b : UInt8} {r : List UInt8} (h : ¬ (unitB big a b < 55296 ∨ 57344 ≤ unitB big a b)) (h2 : ¬ 56320 ≤ unitB big a b) (hr : r.length < 2) : wsign big (a :: b :: r) = (0, 0) := by
  match r, hr with
  | [], _ => simp only [wsign, if_neg h, if_neg h2]
  | [_], _ => simp only [wsign, if_neg h, if_neg h2]
  | _ :: _ :: _, hr => simp at hr; omega
theorem wsign_no {big : Bool} {a b c d : UInt8} {r : List UInt8} (h : ¬ (unitB big a b < 55296 ∨ 57344 ≤ unitB big a b)) (h2 : ¬ 56320 ≤ unitB big a b) (h3 : unitB big c d < 56320 ∨ 57344 ≤ unitB big c d) : wsign big (a :: b :: c :: d :: r) = (0, 0) := by
  simp only [wsign, if_neg h, if_neg h2, if_pos h3]
theorem wsign_four {big : Bool} {a b c d : UInt8} {r : List UInt8} (h : ¬ (unitB big a b < 55296 ∨ 57344 ≤ unitB big a b)) (h2 : ¬ 56320 ≤ unitB big a b) (h3 : ¬ (unitB big c d < 56320 ∨ 57344 ≤ unitB big c d)) :
    wsign big (a :: b :: c :: d :: r) = (65536 + (unitB big a b - 55296) * 1024 + (unitB big c d - 56320), 4) := by
  simp only [wsign, if_neg h, if_neg h2, if_neg h3]

theorem Sign_any (s : ByteArray) (i : Nat) (hi : i ≤ s.size) (hs : s.size ≤ 140737488355328) (big : Bool) (w : World) :
    Calls Tryd.prog 54 #[.string s, .int .i64 i, .bool big] w fun e w' => e = .returned (.tuple #[.int .i32 (wsign big (s.data.toList.drop i)).1, .int .i64 (wsign big (s.data.toList.drop i)).2]) ∧ Below w.heap.size w w' := by
  have hl := short_drop s i
  by_cases h2 : i + 1 < s.size
  · have hd := drop_two s i h2
    have u1 := Unit_any s i h2 hs big
    have hr := unitB_range big s[i] s[i+1]
    have lo := @wsign_low big s[i] s[i+1] (s.data.toList.drop (i + 2))
    have mi := @wsign_mid big s[i] s[i+1] (s.data.toList.drop (i + 2))
    have sh := @wsign_short big s[i] s[i+1] (s.data.toList.drop (i + 2))
    have no := fun c d => @wsign_no big s[i] s[i+1] c d (s.data.toList.drop (i + 2 + 2))
    have fo := fun c d => @wsign_four big s[i] s[i+1] c d (s.data.toList.drop (i + 2 + 2))
    have hl2 := short_drop s (i + 2)
    generalize unitB big s[i] s[i+1] = u at *
    by_cases c1 : u < 55296
    · have hw : Hid (wsign big (s.data.toList.drop i) = (u, 2)) := by rw [hd]; exact lo (.inl c1)
      rw [hw.out]
      clear hl hd lo mi sh no fo hl2
      go_enter Tryd.func54, Tryd.ntmps54
      go_wp2_with (go_at_call 80; refine (u1 _).mono ?_; rintro e w1 ⟨rfl, hb1⟩)
      go_ret2
      exact ⟨rfl, hb1⟩
    by_cases c2 : 57344 ≤ u
    · have hw : Hid (wsign big (s.data.toList.drop i) = (u, 2)) := by rw [hd]; exact lo (.inr c2)
      rw [hw.out]
      clear hl hd lo mi sh no fo hl2
      go_enter Tryd.func54, Tryd.ntmps54
      go_wp2_with (go_at_call 80; refine (u1 _).mono ?_; rintro e w1 ⟨rfl, hb1⟩)
      go_ret2
      exact ⟨rfl, hb1⟩
    have hn : ¬ (u < 55296 ∨ 57344 ≤ u) := by omega
    by_cases c3 : 56320 ≤ u
    · have hw : Hid (wsign big (s.data.toList.drop i) = (0, 0)) := by rw [hd]; exact mi hn c3
      rw [hw.out]
      clear hl hd lo mi sh no fo hl2 hn
      go_enter Tryd.func54, Tryd.ntmps54
      go_wp2_with (go_at_call 80; refine (u1 _).mono ?_; rintro e w1 ⟨rfl, hb1⟩)
      go_ret2
      exact ⟨rfl, hb1⟩
    by_cases c4 : s.size < i + 4
    · have hw : Hid (wsign big (s.data.toList.drop i) = (0, 0)) := by rw [hd]; exact sh hn c3 (by omega)
      rw [hw.out]
      clear hl hd lo mi sh no fo hl2 hn
      go_enter Tryd.func54, Tryd.ntmps54
      go_wp2_with (go_at_call 80; refine (u1 _).mono ?_; rintro e w1 ⟨rfl, hb1⟩)
      go_ret2
      exact ⟨rfl, hb1⟩
    have h4 : i + 2 + 1 < s.size := by omega
    have hd2 := drop_two s (i + 2) h4
    have u2 := Unit_any s (i + 2) h4 hs big
    rw [show (((i + 2 : Nat) : Int)) = (i : Int) + 2 from by omega] at u2
    have hr2 := unitB_range big s[i+2] s[i+2+1]
    have no := no s[i+2] s[i+2+1]
    have fo := fo s[i+2] s[i+2+1]
    generalize unitB big s[i+2] s[i+2+1] = v at *
    by_cases c5 : v < 56320
    · have hw : Hid (wsign big (s.data.toList.drop i) = (0, 0)) := by rw [hd, hd2]; exact no hn c3 (.inl c5)
      rw [hw.out]
      clear hl hd lo mi sh no fo hl2 hn hd2
      go_enter Tryd.func54, Tryd.ntmps54
      go_wp2_with (go_at_call 80; first | (refine (u1 _).mono ?_; rintro e w1 ⟨rfl, hb1⟩; have hz1 := hb1.size; clear u1) | (refine (u2 _).mono ?_; rintro e w2 ⟨rfl, hb2⟩))
      go_ret2
      exact ⟨rfl, hb1.trans (hb2.mono hz1)⟩
    by_cases c6 : 57344 ≤ v
    · have hw : Hid (wsign big (s.data.toList.drop i) = (0, 0)) := by rw [hd, hd2]; exact no hn c3 (.inr c6)
      rw [hw.out]
      clear hl hd lo mi sh no fo hl2 hn hd2
      go_enter Tryd.func54, Tryd.ntmps54
      go_wp2_with (go_at_call 80; first | (refine (u1 _).mono ?_; rintro e w1 ⟨rfl, hb1⟩; have hz1 := hb1.size; clear u1) | (refine (u2 _).mono ?_; rintro e w2 ⟨rfl, hb2⟩))
      go_ret2
      exact ⟨rfl, hb1.trans (hb2.mono hz1)⟩
    have hw : Hid (wsign big (s.data.toList.drop i) = (65536 + (u - 55296) * 1024 + (v - 56320), 4)) := by rw [hd, hd2]; exact fo hn c3 (by omega)
    rw [hw.out]
    clear hl hd lo mi sh no fo hl2 hn hd2
    go_enter Tryd.func54, Tryd.ntmps54
    go_wp2_with (go_at_call 80; first | (refine (u1 _).mono ?_; rintro e w1 ⟨rfl, hb1⟩; have hz1 := hb1.size; clear u1) | (refine (u2 _).mono ?_; rintro e w2 ⟨rfl, hb2⟩))
    go_ret2
    exact ⟨by simp, hb1.trans (hb2.mono hz1)⟩
  · have hw : Hid (wsign big (s.data.toList.drop i) = (0, 0)) := by
      generalize s.data.toList.drop i = l at *
      match l, hl with
      | [], _ => rfl
      | [_], _ => rfl
      | _ :: _ :: _, h => simp at h; omega
    rw [hw.out]
    clear hl
    go_enter Tryd.func54, Tryd.ntmps54
    go_wp2_with fail
    go_ret2
    exact ⟨rfl, Below.refl _ _⟩
end Go.Proofs.YtblcknhkjkcmjaaDoor
