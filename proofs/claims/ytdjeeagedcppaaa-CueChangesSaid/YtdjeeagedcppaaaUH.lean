/- The example of layer 23 holds; CueDeclares holds; no condition. -/
import Derived.Test.YtdjeeagedcppaaaUG
import Derived.Test.YtdjeeagedcppaaaYZ
set_option maxRecDepth 100000
set_option maxHeartbeats 4000000
namespace Go.Proofs.Ytdjeeagedcppaaa
open Go Go.RowKit

theorem CParse_any (s : ByteArray) (hs : s.size ≤ 100000) (w : World) :
    Calls Try.prog 6 #[.string s] w (WkPost cueL s.data.toList w) := by
  generalize hP : WkPost cueL s.data.toList w = P at *
  have hw := fun w => Walk_cue cueL (fun _ => True) (fun _ _ _ _ => trivial) (fun s w h _ => by
    have := CPieces_any (B s) (by rw [B_size]; exact h) w
    rw [B_data] at this
    exact this) cueL_len s hs w trivial
  go_enter Try.func6, Try.ntmps6
  go_wp2_with (go_at_call 12; refine (hw _).mono ?_; rintro e w1 ⟨v, x, a, rfl, hr, hb1⟩; have hz1 := sz_a1 hb1; obtain ⟨c0, c1, f0, f1, hlt⟩ := box2 (hb1.mono (by simp)))
  refine bodyPost_ret (v := .tuple #[v, .agg #[.int .i64 x, .int .i64 a]]) (by simp [results, Try.results6, go_sem, c0, c1]) rfl ?_
  rw [← hP]
  refine ⟨v, x, a, rfl, ?_, ((below_a1 hb1).setCell (Nat.le_refl _) _).setCell (Nat.le_refl _) _⟩
  exact ((hr.set (p := ⟨w.heap.size, 0, none⟩) (by simp) _).set (p := ⟨w.heap.size, 1, none⟩) (by simp) _).more (by simp)
def t23a : List UInt8 := [84, 73, 84, 76, 69, 32, 34, 97, 98, 99, 34, 10]
def t23b : List UInt8 := [82, 69, 77, 10, 84, 73, 84, 76, 69]
theorem walk23a : walkL cueL (linesL t23a) = .inl [mk [84, 73, 84, 76, 69, 32, 34], (false, nTitle, [97, 98, 99]), mk [34], mk [10]] := by decide +kernel
theorem walk23b : walkL cueL (linesL t23b) = .inr 4 := by decide +kernel
theorem Parse23a (w : World) :
    Calls Try.prog 6 #[.string ⟨#[84, 73, 84, 76, 69, 32, 34, 97, 98, 99, 34, 10]⟩] w fun e w' => ∃ bk c, e = .returned (.tuple #[.slice (some ⟨bk, 0, none⟩) 4 c, .agg #[.int .i64 0, .int .i64 0]]) ∧ 4 ≤ c ∧ bk < w'.heap.size ∧ w'.cell? ⟨bk, 3, none⟩ = some (.bool false) ∧ w'.cell? ⟨bk, 4, none⟩ = some (.string ⟨#[116, 105, 116, 108, 101]⟩) ∧ w'.cell? ⟨bk, 5, none⟩ = some (.string ⟨#[97, 98, 99]⟩) ∧ Below w.heap.size w w' := by
  refine (CParse_any ⟨#[84, 73, 84, 76, 69, 32, 34, 97, 98, 99, 34, 10]⟩ (by decide) w).mono ?_
  rintro e w' ⟨v, x, a, rfl, hr, hb⟩
  rw [show (ByteArray.mk #[84, 73, 84, 76, 69, 32, 34, 97, 98, 99, 34, 10]).data.toList = t23a from rfl, walk23a] at hr
  rcases hr with ⟨ps, h, hv, _, rfl, rfl⟩ | ⟨n, h, _⟩
  · injection h with h
    subst h
    rcases hv with ⟨h, _⟩ | ⟨bk, c, _, rfl, h2, h3, h4⟩
    · simp at h
    · exact ⟨bk, c, rfl, h2, h3, h4 3 _ rfl, h4 4 _ rfl, h4 5 _ rfl, hb⟩
  · cases h
theorem Parse23b (w : World) :
    Calls Try.prog 6 #[.string ⟨#[82, 69, 77, 10, 84, 73, 84, 76, 69]⟩] w fun e w' => e = .returned (.tuple #[.slice none 0 0, .agg #[.int .i64 1, .int .i64 4]]) ∧ Below w.heap.size w w' := by
  refine (CParse_any ⟨#[82, 69, 77, 10, 84, 73, 84, 76, 69]⟩ (by decide) w).mono ?_
  rintro e w' ⟨v, x, a, rfl, hr, hb⟩
  rw [show (ByteArray.mk #[82, 69, 77, 10, 84, 73, 84, 76, 69]).data.toList = t23b from rfl, walk23b] at hr
  rcases hr with ⟨ps, h, _⟩ | ⟨n, h, rfl, rfl, rfl⟩
  · cases h
  · injection h with h
    subst h
    exact ⟨rfl, hb⟩
theorem Awake23 (w : World) :
    Calls Try.prog 11 #[] w fun e w' => e = .returned (.bool true) ∧ Below w.heap.size w w' := by
  have hpa := fun w => Parse23a w
  have hpb := fun w => Parse23b w
  go_enter Try.func11, Try.ntmps11
  go_wp2_with (first | (go_at_call 6; first | (refine (hpa _).mono ?_; rintro e w1 ⟨bk, c, rfl, hc3, hbk, a3, a4, a5, hb1⟩; clear hpa) | (refine (hpb _).mono ?_; rintro e w2 ⟨rfl, hb2⟩; have b3 := old2 hb2 hbk a3; have b4 := old2 hb2 hbk a4; have b5 := old2 hb2 hbk a5; have hz2 := sz_a1 hb2; obtain ⟨p0, p1, _, _, hz⟩ := box2 (by simpa using hb2))) | (go_at_call 18; refine (Awake22 _).mono ?_; rintro e w3 ⟨rfl, hb3⟩; have c3 := old2 hb3 (by omega) b3; have c4 := old2 hb3 (by omega) b4; have c5 := old2 hb3 (by omega) b5; have q0 := old2 hb3 (by omega) p0; have q1 := old2 hb3 (by omega) p1; obtain ⟨r0, r1, _, _, hz3⟩ := box2 (by simpa using hb3)) | (go_at_call 7; refine (Bad0 _).mono ?_; rintro e w4 ⟨rfl, hb4⟩; have s0 := (hb4.cell (p := ⟨w2.heap.size, 0, none⟩) hz3).trans r0; have s1 := (hb4.cell (p := ⟨w2.heap.size, 1, none⟩) hz3).trans r1))
  go_ret
  exact ⟨rfl, bch (bch (bch hb1 (below_a1 hb2)) (below_a1 hb3)) hb4⟩
theorem awake23 (w : World) :
    Calls Try.prog 5 #[] w fun e w' => e = .returned (.bool true) ∧ Below w.heap.size w w' := by
  go_enter Try.func5, Try.ntmps5
  go_wp2_with (go_at_call 11; refine (Awake23 _).mono ?_; rintro e w1 ⟨rfl, hb1⟩)
  go_ret
  exact ⟨rfl, hb1⟩
theorem CueDeclares_law (s : ByteArray) (w : World) :
    Calls Try.prog 4 #[.string s] w fun e w' => e = .returned (.bool true) ∧ Below w.heap.size w w' := by
  by_cases hs : (2000 : Int) < s.size
  · go_enter Try.func4, Try.ntmps4
    go_wp2_with (go_at_call 5; refine (awake23 _).mono ?_; rintro e w1 ⟨rfl, hb1⟩)
    go_ret
    exact ⟨rfl, hb1⟩
  · have hc := fun w => CDeclared_any s (by omega) w
    have hr := fun w => CRDeclared_any s (by omega) w
    generalize chL (linesL s.data.toList) = z at *
    have h2 : (s.size : Int) ≤ 2000 := by omega
    go_enter Try.func4, Try.ntmps4
    go_wp2_with (first | (go_at_call 5; refine (awake23 _).mono ?_; rintro e w1 ⟨rfl, hb1⟩) | (go_at_call 9; refine (hc _).mono ?_; rintro e w2 ⟨rfl, hb2⟩) | (go_at_call 10; refine (hr _).mono ?_; rintro e w3 ⟨rfl, hb3⟩))
    go_ret
    exact ⟨rfl, bch (bch hb2 hb3) hb1⟩
end Go.Proofs.Ytdjeeagedcppaaa
