/- Contracts of lrc.moment, of the document's time; condition: at most 100,000 bytes. -/
import Derived.Test.YtllmjlmeheohlaaYH
set_option maxRecDepth 100000
set_option maxHeartbeats 2000000
namespace Go.Proofs.Ytllmjlmeheohlaa
open Go Go.RowKit

theorem pre1 (c : UInt8) (l : List UInt8) : Lib.hasPrefix l [c] = true ↔ l.take 1 = [c] := by
  unfold Lib.hasPrefix
  cases l with
  | nil => simp [List.isPrefixOf]
  | cons b l =>
    simp only [List.isPrefixOf, Bool.and_true, beq_iff_eq, List.take_succ_cons, List.take_zero, List.cons.injEq, and_true]
    exact eq_comm
theorem pre1_no {c : UInt8} {l : List UInt8} (h : Lib.hasPrefix l [c] = false) : ¬ l.take 1 = [c] := fun e => by
  rw [(pre1 c l).2 e] at h
  cases h
theorem ext_data (s : ByteArray) (a b : Nat) : (s.extract a b).data.toList = (s.data.toList.take b).drop a := by
  conv => lhs; rw [B_of s, B_ext, B_data]
def tmI (l : List UInt8) : Int := Lib.indexByte (l.take 11) 93
theorem tmI_pos {l : List UInt8} (hp : l.take 1 = [91]) (h : 0 ≤ tmI l) : 1 ≤ tmI l ∧ tmI l < 11 ∧ tmI l < l.length := by
  have h1 := idx_get 93 (l.take 11) h
  have h2 := idx_lt 93 (l.take 11)
  rw [List.length_take] at h2
  have h3 : tmI l ≠ 0 := by
    intro e
    have e2 : Lib.indexByte (l.take 11) 93 = 0 := e
    rw [e2] at h1
    have := h1.1
    cases l with
    | nil => simp at hp
    | cons b l => simp at hp this; rw [hp] at this; exact absurd this (by decide)
  unfold tmI at *
  omega
theorem timeN_eq (l : List UInt8) : timeN l = if l.take 1 = [91] ∧ 0 ≤ tmI l ∧ momB ((l.take (tmI l).toNat).drop 1) = true then (tmI l).toNat + 1 else 0 := rfl
theorem strI (s : ByteArray) (m : Nat) (hm : s.data.toList.take m = s.data.toList.take 11) (w : World) :
    Calls Try.prog 46 #[.string (s.extract 0 m), .string ⟨#[93]⟩] w fun e w' => e = .returned (.int .i64 (tmI s.data.toList)) ∧ w = w' := by
  refine (Try.strings_Index_one (s.extract 0 m) 93 w).mono ?_
  rintro e w' ⟨rfl, rfl⟩
  refine ⟨?_, rfl⟩
  rw [ext_data, List.drop_zero, hm]
  rfl
theorem moment_any (s : ByteArray) (hs : s.size ≤ 100000) (w : World) :
    Calls Try.prog 29 #[.string s] w fun e w' => e = .returned (.int .i64 (timeN s.data.toList)) ∧ Below w.heap.size w w' := by
  have hpf : ∀ w, Calls Try.prog 45 #[.string s, .string ⟨#[91]⟩] w fun e w' => e = .returned (.bool (Lib.hasPrefix s.data.toList [91])) ∧ w = w' := fun w => (Try.strings_HasPrefix s ⟨#[91]⟩ w).mono fun e w' h => ⟨h.1, h.2.symm⟩
  have hlen := len_data s
  cases hp : Lib.hasPrefix s.data.toList [91]
  · have h0 := Lib.hid (show timeN s.data.toList = 0 by rw [timeN_eq, if_neg (fun h => pre1_no hp h.1)])
    rw [hp] at hpf
    clear hp hlen
    go_enter Try.func29, Try.ntmps29
    go_wp2_with (go_at_call 45; refine (hpf _).mono ?_; rintro e w1 ⟨rfl, rfl⟩)
    go_ret
    rw [h0.out]
    exact ⟨rfl, Below.refl _ _⟩
  · rw [hp] at hpf
    have hp1 := (pre1 _ _).1 hp
    have hmt : s.data.toList.take (min (s.size : Int) 11).toNat = s.data.toList.take 11 := by
      by_cases h : s.size ≤ 11
      · rw [List.take_of_length_le (by omega), List.take_of_length_le (by omega)]
      · rw [show (min (s.size : Int) 11).toNat = 11 by omega]
    have hI := fun w => strI s (min (s.size : Int) 11).toNat hmt w
    have hT := timeN_eq s.data.toList
    have hpos := tmI_pos hp1
    have hmom := fun w => Moment_any (s.extract 1 (tmI s.data.toList).toNat) (by simp; omega) w
    rw [ext_data] at hmom
    rw [hlen] at hpos
    have hge : -1 ≤ tmI s.data.toList := Lib.indexByte_ge _ _
    by_cases h0 : tmI s.data.toList < 0
    · have Hr := Lib.hid (show timeN s.data.toList = 0 by rw [hT, if_neg (fun h => by omega)])
      clear hT hmt hlen hp hp1 hmom hpos
      generalize tmI s.data.toList = q at *
      go_enter Try.func29, Try.ntmps29
      go_wp2_with (first | (go_at_call 45; refine (hpf _).mono ?_; rintro e w1 ⟨rfl, rfl⟩) | (go_at_call 46; refine (hI _).mono ?_; rintro e w1 ⟨rfl, rfl⟩))
      go_ret
      rw [Hr.out]
      exact ⟨rfl, Below.refl _ _⟩
    · obtain ⟨q1, q2, q3⟩ := hpos (by omega)
      obtain ⟨q, hq⟩ : ∃ q : Nat, tmI s.data.toList = q := ⟨(tmI s.data.toList).toNat, by omega⟩
      rw [hq] at hmom hI hT q1 q2 q3
      rw [Int.toNat_natCast] at hmom hT
      cases hb : momB ((s.data.toList.take q).drop 1)
      · have Hr := Lib.hid (show timeN s.data.toList = 0 by rw [hT, if_neg (fun h => by rw [hb] at h; simp at h)])
        rw [hb] at hmom
        clear hT hmt hlen hp hp1 hpos hb hq h0 hge
        go_enter Try.func29, Try.ntmps29
        go_wp2_with (first | (go_at_call 45; refine (hpf _).mono ?_; rintro e w1 ⟨rfl, rfl⟩) | (go_at_call 46; refine (hI _).mono ?_; rintro e w1 ⟨rfl, rfl⟩) | (go_at_call 12; refine (hmom _).mono ?_; rintro e w2 ⟨rfl, hb2⟩))
        go_ret
        rw [Hr.out]
        exact ⟨rfl, hb2⟩
      · have Hr := Lib.hid (show timeN s.data.toList = q + 1 by rw [hT, if_pos ⟨hp1, by omega, hb⟩])
        rw [hb] at hmom
        clear hT hmt hlen hp hp1 hpos hb hq h0 hge
        go_enter Try.func29, Try.ntmps29
        go_wp2_with (first | (go_at_call 45; refine (hpf _).mono ?_; rintro e w1 ⟨rfl, rfl⟩) | (go_at_call 46; refine (hI _).mono ?_; rintro e w1 ⟨rfl, rfl⟩) | (go_at_call 12; refine (hmom _).mono ?_; rintro e w2 ⟨rfl, hb2⟩))
        go_ret
        rw [Hr.out]
        exact ⟨rfl, hb2⟩
end Go.Proofs.Ytllmjlmeheohlaa
