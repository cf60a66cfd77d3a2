/- The document's Row for chapter 07, for every two bytes of the rows. -/
import Derived.Test.YtllmjlmeheohlaaDoorSX
set_option maxRecDepth 100000
set_option maxHeartbeats 1000000
namespace Go.Proofs.YtllmjlmeheohlaaDoor
open Go Go.RowKit

theorem spanR_bd (b fr la p : Int) (hb : 0 ≤ b ∧ b ≤ 255) (hf : 0 ≤ fr ∧ fr ≤ 255) (hp : 0 ≤ p ∧ p ≤ 20000) : 0 ≤ spanR b fr la p ∧ spanR b fr la p ≤ 30000 := by
  unfold spanR
  split <;> omega
theorem Row161 (b : Int) (hb : 161 ≤ b ∧ b ≤ 254) (w : World) :
    Calls Tryd.prog 20 #[.int .i64 161, .int .i64 b] w fun e w' => e = .returned (.int .i32 ((listW 161).getD (b - 161).toNat 0)) ∧ Below w.heap.size w w' := by
  have hn := fun w => RNth_any (rtB 161) (listW 161) (rtB_good 161 (by omega)) (by have := rtB_size 161 (by omega); omega) (b - 161).toNat (by have := len_chk; show _ < LA1.length; omega) (by omega) w
  rw [show (((b - 161).toNat : Nat) : Int) = b - 161 by omega] at hn
  generalize (listW 161).getD (b - 161).toNat 0 = v at *
  refine calls_of_wp Tryd.func20 rfl ?_
  rw [litT 161]
  rotate_left
  kernel_rfl
  rw [litT 162]
  rotate_left
  kernel_rfl
  rw [litT 166]
  rotate_left
  kernel_rfl
  generalize rtB 161 = s1 at *
  generalize rtB 162 = s2 at *
  generalize rtB 166 = s6 at *
  simp only [Tryd.ntmps20, List.size_toArray, List.length_cons, List.length_nil, Nat.reduceAdd, Nat.reduceSub, Array.replicate_succ, Array.replicate_zero, List.push_toArray, List.append_toArray, List.nil_append, List.cons_append]
  go_wp2_with (first | (go_at_call 38; refine (hn _).mono ?_; rintro e w1 ⟨rfl, hb1⟩))
  go_ret
  exact ⟨rfl, hb1⟩
theorem Row162 (b : Int) (hb : 161 ≤ b ∧ b ≤ 254) (hin : b - 161 < 71) (w : World) :
    Calls Tryd.prog 20 #[.int .i64 162, .int .i64 b] w fun e w' => e = .returned (.int .i32 ((listW 162).getD (b - 161).toNat 0)) ∧ Below w.heap.size w w' := by
  have hn := fun w => RNth_any (rtB 162) (listW 162) (rtB_good 162 (by omega)) (by have := rtB_size 162 (by omega); omega) (b - 161).toNat (by have := len_chk; show _ < LA2.length; omega) (by omega) w
  rw [show (((b - 161).toNat : Nat) : Int) = b - 161 by omega] at hn
  generalize (listW 162).getD (b - 161).toNat 0 = v at *
  refine calls_of_wp Tryd.func20 rfl ?_
  rw [litT 161]
  rotate_left
  kernel_rfl
  rw [litT 162]
  rotate_left
  kernel_rfl
  rw [litT 166]
  rotate_left
  kernel_rfl
  generalize rtB 161 = s1 at *
  generalize rtB 162 = s2 at *
  generalize rtB 166 = s6 at *
  simp only [Tryd.ntmps20, List.size_toArray, List.length_cons, List.length_nil, Nat.reduceAdd, Nat.reduceSub, Array.replicate_succ, Array.replicate_zero, List.push_toArray, List.append_toArray, List.nil_append, List.cons_append]
  have hd : decide (b - 161 < 71) = true := by simpa using hin
  go_wp2_with (first | (go_at_call 38; refine (hn _).mono ?_; rintro e w1 ⟨rfl, hb1⟩))
  go_ret
  exact ⟨rfl, hb1⟩
theorem Row162_no (b : Int) (hb : 161 ≤ b ∧ b ≤ 254) (hin : ¬ b - 161 < 71) (w : World) :
    Calls Tryd.prog 20 #[.int .i64 162, .int .i64 b] w fun e w' => e = .returned (.int .i32 0) ∧ Below w.heap.size w w' := by
  obtain ⟨b0, b1⟩ := hb
  refine calls_of_wp Tryd.func20 rfl ?_
  rw [litT 161]
  rotate_left
  kernel_rfl
  rw [litT 162]
  rotate_left
  kernel_rfl
  rw [litT 166]
  rotate_left
  kernel_rfl
  generalize rtB 161 = s1 at *
  generalize rtB 162 = s2 at *
  generalize rtB 166 = s6 at *
  simp only [Tryd.ntmps20, List.size_toArray, List.length_cons, List.length_nil, Nat.reduceAdd, Nat.reduceSub, Array.replicate_succ, Array.replicate_zero, List.push_toArray, List.append_toArray, List.nil_append, List.cons_append]
  have hd : decide (b - 161 < 71) = false := by simp; omega
  go_wp2_with fail
  go_ret
  exact ⟨rfl, Below.refl _ _⟩
theorem Row166 (b : Int) (hb : 161 ≤ b ∧ b ≤ 254) (hin : b - 161 < 68) (w : World) :
    Calls Tryd.prog 20 #[.int .i64 166, .int .i64 b] w fun e w' => e = .returned (.int .i32 ((listW 166).getD (b - 161).toNat 0)) ∧ Below w.heap.size w w' := by
  have hn := fun w => RNth_any (rtB 166) (listW 166) (rtB_good 166 (by omega)) (by have := rtB_size 166 (by omega); omega) (b - 161).toNat (by have := len_chk; show _ < LA6.length; omega) (by omega) w
  rw [show (((b - 161).toNat : Nat) : Int) = b - 161 by omega] at hn
  generalize (listW 166).getD (b - 161).toNat 0 = v at *
  refine calls_of_wp Tryd.func20 rfl ?_
  rw [litT 161]
  rotate_left
  kernel_rfl
  rw [litT 162]
  rotate_left
  kernel_rfl
  rw [litT 166]
  rotate_left
  kernel_rfl
  generalize rtB 161 = s1 at *
  generalize rtB 162 = s2 at *
  generalize rtB 166 = s6 at *
  simp only [Tryd.ntmps20, List.size_toArray, List.length_cons, List.length_nil, Nat.reduceAdd, Nat.reduceSub, Array.replicate_succ, Array.replicate_zero, List.push_toArray, List.append_toArray, List.nil_append, List.cons_append]
  have hd : decide (b - 161 < 68) = true := by simpa using hin
  go_wp2_with (first | (go_at_call 38; refine (hn _).mono ?_; rintro e w1 ⟨rfl, hb1⟩))
  go_ret
  exact ⟨rfl, hb1⟩
theorem Row166_no (b : Int) (hb : 161 ≤ b ∧ b ≤ 254) (hin : ¬ b - 161 < 68) (w : World) :
    Calls Tryd.prog 20 #[.int .i64 166, .int .i64 b] w fun e w' => e = .returned (.int .i32 0) ∧ Below w.heap.size w w' := by
  obtain ⟨b0, b1⟩ := hb
  refine calls_of_wp Tryd.func20 rfl ?_
  rw [litT 161]
  rotate_left
  kernel_rfl
  rw [litT 162]
  rotate_left
  kernel_rfl
  rw [litT 166]
  rotate_left
  kernel_rfl
  generalize rtB 161 = s1 at *
  generalize rtB 162 = s2 at *
  generalize rtB 166 = s6 at *
  simp only [Tryd.ntmps20, List.size_toArray, List.length_cons, List.length_nil, Nat.reduceAdd, Nat.reduceSub, Array.replicate_succ, Array.replicate_zero, List.push_toArray, List.append_toArray, List.nil_append, List.cons_append]
  have hd : decide (b - 161 < 68) = false := by simp; omega
  go_wp2_with fail
  go_ret
  exact ⟨rfl, Below.refl _ _⟩
theorem Row163 (b : Int) (hb : 161 ≤ b ∧ b ≤ 254) (w : World) :
    Calls Tryd.prog 20 #[.int .i64 163, .int .i64 b] w fun e w' => e = .returned (.int .i32 (if b = 220 then 65510 else if b = 254 then 65507 else 65281 + b - 161)) ∧ Below w.heap.size w w' := by
  obtain ⟨b0, b1⟩ := hb
  refine calls_of_wp Tryd.func20 rfl ?_
  rw [litT 161]
  rotate_left
  kernel_rfl
  rw [litT 162]
  rotate_left
  kernel_rfl
  rw [litT 166]
  rotate_left
  kernel_rfl
  generalize rtB 161 = s1 at *
  generalize rtB 162 = s2 at *
  generalize rtB 166 = s6 at *
  simp only [Tryd.ntmps20, List.size_toArray, List.length_cons, List.length_nil, Nat.reduceAdd, Nat.reduceSub, Array.replicate_succ, Array.replicate_zero, List.push_toArray, List.append_toArray, List.nil_append, List.cons_append]
  by_cases h1 : b = 220
  · subst h1
    go_wp2_with fail
    go_ret
    exact ⟨rfl, Below.refl _ _⟩
  rw [if_neg h1]
  have e1 : (b == 220) = false := by simpa using h1
  by_cases h2 : b = 254
  · subst h2
    go_wp2_with fail
    go_ret
    exact ⟨rfl, Below.refl _ _⟩
  rw [if_neg h2]
  have e2 : (b == 254) = false := by simpa using h2
  go_wp2_with fail
  go_ret
  exact ⟨rfl, Below.refl _ _⟩
theorem Row164 (b : Int) (hb : 161 ≤ b ∧ b ≤ 254) (w : World) :
    Calls Tryd.prog 20 #[.int .i64 164, .int .i64 b] w fun e w' => e = .returned (.int .i32 (12593 + b - 161)) ∧ Below w.heap.size w w' := by
  obtain ⟨b0, b1⟩ := hb
  refine calls_of_wp Tryd.func20 rfl ?_
  rw [litT 161]
  rotate_left
  kernel_rfl
  rw [litT 162]
  rotate_left
  kernel_rfl
  rw [litT 166]
  rotate_left
  kernel_rfl
  generalize rtB 161 = s1 at *
  generalize rtB 162 = s2 at *
  generalize rtB 166 = s6 at *
  simp only [Tryd.ntmps20, List.size_toArray, List.length_cons, List.length_nil, Nat.reduceAdd, Nat.reduceSub, Array.replicate_succ, Array.replicate_zero, List.push_toArray, List.append_toArray, List.nil_append, List.cons_append]
  go_wp2_with fail
  go_ret
  exact ⟨rfl, Below.refl _ _⟩
theorem Row165 (b : Int) (hb : 161 ≤ b ∧ b ≤ 254) (w : World) :
    Calls Tryd.prog 20 #[.int .i64 165, .int .i64 b] w fun e w' => e = .returned (.int .i32 (spanR b 161 170 8560 + spanR b 176 185 8544 + spanR b 193 209 913 + spanR b 210 216 931 + spanR b 225 241 945 + spanR b 242 248 963)) ∧ Below w.heap.size w w' := by
  have h0 := fun w => RSpan_any b 161 170 8560 (by omega) (by omega) (by omega) w
  obtain ⟨l0, u0⟩ := spanR_bd b 161 170 8560 (by omega) (by omega) (by omega)
  have h1 := fun w => RSpan_any b 176 185 8544 (by omega) (by omega) (by omega) w
  obtain ⟨l1, u1⟩ := spanR_bd b 176 185 8544 (by omega) (by omega) (by omega)
  have h2 := fun w => RSpan_any b 193 209 913 (by omega) (by omega) (by omega) w
  obtain ⟨l2, u2⟩ := spanR_bd b 193 209 913 (by omega) (by omega) (by omega)
  have h3 := fun w => RSpan_any b 210 216 931 (by omega) (by omega) (by omega) w
  obtain ⟨l3, u3⟩ := spanR_bd b 210 216 931 (by omega) (by omega) (by omega)
  have h4 := fun w => RSpan_any b 225 241 945 (by omega) (by omega) (by omega) w
  obtain ⟨l4, u4⟩ := spanR_bd b 225 241 945 (by omega) (by omega) (by omega)
  have h5 := fun w => RSpan_any b 242 248 963 (by omega) (by omega) (by omega) w
  obtain ⟨l5, u5⟩ := spanR_bd b 242 248 963 (by omega) (by omega) (by omega)
  generalize spanR b 161 170 8560 = x0 at *
  generalize spanR b 176 185 8544 = x1 at *
  generalize spanR b 193 209 913 = x2 at *
  generalize spanR b 210 216 931 = x3 at *
  generalize spanR b 225 241 945 = x4 at *
  generalize spanR b 242 248 963 = x5 at *
  refine calls_of_wp Tryd.func20 rfl ?_
  rw [litT 161]
  rotate_left
  kernel_rfl
  rw [litT 162]
  rotate_left
  kernel_rfl
  rw [litT 166]
  rotate_left
  kernel_rfl
  generalize rtB 161 = s1 at *
  generalize rtB 162 = s2 at *
  generalize rtB 166 = s6 at *
  simp only [Tryd.ntmps20, List.size_toArray, List.length_cons, List.length_nil, Nat.reduceAdd, Nat.reduceSub, Array.replicate_succ, Array.replicate_zero, List.push_toArray, List.append_toArray, List.nil_append, List.cons_append]
  go_wp2_with (first | (go_at_call 39; first | ((with_reducible refine (h0 _).mono ?_); rintro e w1 ⟨rfl, rfl⟩; clear h0) | ((with_reducible refine (h1 _).mono ?_); rintro e w1 ⟨rfl, rfl⟩; clear h1) | ((with_reducible refine (h2 _).mono ?_); rintro e w1 ⟨rfl, rfl⟩; clear h2) | ((with_reducible refine (h3 _).mono ?_); rintro e w1 ⟨rfl, rfl⟩; clear h3) | ((with_reducible refine (h4 _).mono ?_); rintro e w1 ⟨rfl, rfl⟩; clear h4) | ((with_reducible refine (h5 _).mono ?_); rintro e w1 ⟨rfl, rfl⟩; clear h5)))
  go_ret
  exact ⟨rfl, Below.refl _ _⟩
theorem Row170 (b : Int) (hb : 161 ≤ b ∧ b ≤ 254) (w : World) :
    Calls Tryd.prog 20 #[.int .i64 170, .int .i64 b] w fun e w' => e = .returned (.int .i32 (spanR b 161 243 12353)) ∧ Below w.heap.size w w' := by
  have h0 := fun w => RSpan_any b 161 243 12353 (by omega) (by omega) (by omega) w
  obtain ⟨l0, u0⟩ := spanR_bd b 161 243 12353 (by omega) (by omega) (by omega)
  generalize spanR b 161 243 12353 = x0 at *
  refine calls_of_wp Tryd.func20 rfl ?_
  rw [litT 161]
  rotate_left
  kernel_rfl
  rw [litT 162]
  rotate_left
  kernel_rfl
  rw [litT 166]
  rotate_left
  kernel_rfl
  generalize rtB 161 = s1 at *
  generalize rtB 162 = s2 at *
  generalize rtB 166 = s6 at *
  simp only [Tryd.ntmps20, List.size_toArray, List.length_cons, List.length_nil, Nat.reduceAdd, Nat.reduceSub, Array.replicate_succ, Array.replicate_zero, List.push_toArray, List.append_toArray, List.nil_append, List.cons_append]
  go_wp2_with (first | (go_at_call 39; first | ((with_reducible refine (h0 _).mono ?_); rintro e w1 ⟨rfl, rfl⟩; clear h0)))
  go_ret
  exact ⟨rfl, Below.refl _ _⟩
theorem Row171 (b : Int) (hb : 161 ≤ b ∧ b ≤ 254) (w : World) :
    Calls Tryd.prog 20 #[.int .i64 171, .int .i64 b] w fun e w' => e = .returned (.int .i32 (spanR b 161 246 12449)) ∧ Below w.heap.size w w' := by
  have h0 := fun w => RSpan_any b 161 246 12449 (by omega) (by omega) (by omega) w
  obtain ⟨l0, u0⟩ := spanR_bd b 161 246 12449 (by omega) (by omega) (by omega)
  generalize spanR b 161 246 12449 = x0 at *
  refine calls_of_wp Tryd.func20 rfl ?_
  rw [litT 161]
  rotate_left
  kernel_rfl
  rw [litT 162]
  rotate_left
  kernel_rfl
  rw [litT 166]
  rotate_left
  kernel_rfl
  generalize rtB 161 = s1 at *
  generalize rtB 162 = s2 at *
  generalize rtB 166 = s6 at *
  simp only [Tryd.ntmps20, List.size_toArray, List.length_cons, List.length_nil, Nat.reduceAdd, Nat.reduceSub, Array.replicate_succ, Array.replicate_zero, List.push_toArray, List.append_toArray, List.nil_append, List.cons_append]
  go_wp2_with (first | (go_at_call 39; first | ((with_reducible refine (h0 _).mono ?_); rintro e w1 ⟨rfl, rfl⟩; clear h0)))
  go_ret
  exact ⟨rfl, Below.refl _ _⟩
theorem Row172 (b : Int) (hb : 161 ≤ b ∧ b ≤ 254) (w : World) :
    Calls Tryd.prog 20 #[.int .i64 172, .int .i64 b] w fun e w' => e = .returned (.int .i32 (spanR b 161 166 1040 + spanR b 167 167 1025 + spanR b 168 193 1046 + spanR b 209 214 1072 + spanR b 215 215 1105 + spanR b 216 241 1078)) ∧ Below w.heap.size w w' := by
  have h0 := fun w => RSpan_any b 161 166 1040 (by omega) (by omega) (by omega) w
  obtain ⟨l0, u0⟩ := spanR_bd b 161 166 1040 (by omega) (by omega) (by omega)
  have h1 := fun w => RSpan_any b 167 167 1025 (by omega) (by omega) (by omega) w
  obtain ⟨l1, u1⟩ := spanR_bd b 167 167 1025 (by omega) (by omega) (by omega)
  have h2 := fun w => RSpan_any b 168 193 1046 (by omega) (by omega) (by omega) w
  obtain ⟨l2, u2⟩ := spanR_bd b 168 193 1046 (by omega) (by omega) (by omega)
  have h3 := fun w => RSpan_any b 209 214 1072 (by omega) (by omega) (by omega) w
  obtain ⟨l3, u3⟩ := spanR_bd b 209 214 1072 (by omega) (by omega) (by omega)
  have h4 := fun w => RSpan_any b 215 215 1105 (by omega) (by omega) (by omega) w
  obtain ⟨l4, u4⟩ := spanR_bd b 215 215 1105 (by omega) (by omega) (by omega)
  have h5 := fun w => RSpan_any b 216 241 1078 (by omega) (by omega) (by omega) w
  obtain ⟨l5, u5⟩ := spanR_bd b 216 241 1078 (by omega) (by omega) (by omega)
  generalize spanR b 161 166 1040 = x0 at *
  generalize spanR b 167 167 1025 = x1 at *
  generalize spanR b 168 193 1046 = x2 at *
  generalize spanR b 209 214 1072 = x3 at *
  generalize spanR b 215 215 1105 = x4 at *
  generalize spanR b 216 241 1078 = x5 at *
  refine calls_of_wp Tryd.func20 rfl ?_
  rw [litT 161]
  rotate_left
  kernel_rfl
  rw [litT 162]
  rotate_left
  kernel_rfl
  rw [litT 166]
  rotate_left
  kernel_rfl
  generalize rtB 161 = s1 at *
  generalize rtB 162 = s2 at *
  generalize rtB 166 = s6 at *
  simp only [Tryd.ntmps20, List.size_toArray, List.length_cons, List.length_nil, Nat.reduceAdd, Nat.reduceSub, Array.replicate_succ, Array.replicate_zero, List.push_toArray, List.append_toArray, List.nil_append, List.cons_append]
  go_wp2_with (first | (go_at_call 39; first | ((with_reducible refine (h0 _).mono ?_); rintro e w1 ⟨rfl, rfl⟩; clear h0) | ((with_reducible refine (h1 _).mono ?_); rintro e w1 ⟨rfl, rfl⟩; clear h1) | ((with_reducible refine (h2 _).mono ?_); rintro e w1 ⟨rfl, rfl⟩; clear h2) | ((with_reducible refine (h3 _).mono ?_); rintro e w1 ⟨rfl, rfl⟩; clear h3) | ((with_reducible refine (h4 _).mono ?_); rintro e w1 ⟨rfl, rfl⟩; clear h4) | ((with_reducible refine (h5 _).mono ?_); rintro e w1 ⟨rfl, rfl⟩; clear h5)))
  go_ret
  exact ⟨rfl, Below.refl _ _⟩
theorem Row_no (b : Int) (hb : 161 ≤ b ∧ b ≤ 254) (lead : Int) (hl : lead ≠ 161 ∧ lead ≠ 162 ∧ lead ≠ 163 ∧ lead ≠ 164 ∧ lead ≠ 165 ∧ lead ≠ 166 ∧ lead ≠ 170 ∧ lead ≠ 171 ∧ lead ≠ 172) (w : World) :
    Calls Tryd.prog 20 #[.int .i64 lead, .int .i64 b] w fun e w' => e = .returned (.int .i32 0) ∧ Below w.heap.size w w' := by
  obtain ⟨b0, b1⟩ := hb
  have e161 : (lead == 161) = false := by simp; omega
  have e162 : (lead == 162) = false := by simp; omega
  have e163 : (lead == 163) = false := by simp; omega
  have e164 : (lead == 164) = false := by simp; omega
  have e165 : (lead == 165) = false := by simp; omega
  have e166 : (lead == 166) = false := by simp; omega
  have e170 : (lead == 170) = false := by simp; omega
  have e171 : (lead == 171) = false := by simp; omega
  have e172 : (lead == 172) = false := by simp; omega
  refine calls_of_wp Tryd.func20 rfl ?_
  rw [litT 161]
  rotate_left
  kernel_rfl
  rw [litT 162]
  rotate_left
  kernel_rfl
  rw [litT 166]
  rotate_left
  kernel_rfl
  generalize rtB 161 = s1 at *
  generalize rtB 162 = s2 at *
  generalize rtB 166 = s6 at *
  simp only [Tryd.ntmps20, List.size_toArray, List.length_cons, List.length_nil, Nat.reduceAdd, Nat.reduceSub, Array.replicate_succ, Array.replicate_zero, List.push_toArray, List.append_toArray, List.nil_append, List.cons_append]
  go_wp2_with fail
  go_ret
  exact ⟨rfl, Below.refl _ _⟩
theorem RRow_any (lead b : Int) (hb : 161 ≤ b ∧ b ≤ 254) (w : World) :
    Calls Tryd.prog 20 #[.int .i64 lead, .int .i64 b] w fun e w' => e = .returned (.int .i32 (rowZ lead b)) ∧ Below w.heap.size w w' := by
  unfold rowZ
  by_cases h161 : lead = 161
  · rw [if_pos h161]
    subst h161
    exact Row161 b hb w
  rw [if_neg h161]
  by_cases h162 : lead = 162
  · rw [if_pos h162]
    subst h162
    by_cases hin : b - 161 < 71
    · rw [if_pos hin]; exact Row162 b hb hin w
    · rw [if_neg hin]; exact Row162_no b hb hin w
  rw [if_neg h162]
  by_cases h163 : lead = 163
  · rw [if_pos h163]
    subst h163
    exact Row163 b hb w
  rw [if_neg h163]
  by_cases h164 : lead = 164
  · rw [if_pos h164]
    subst h164
    exact Row164 b hb w
  rw [if_neg h164]
  by_cases h165 : lead = 165
  · rw [if_pos h165]
    subst h165
    exact Row165 b hb w
  rw [if_neg h165]
  by_cases h166 : lead = 166
  · rw [if_pos h166]
    subst h166
    by_cases hin : b - 161 < 68
    · rw [if_pos hin]; exact Row166 b hb hin w
    · rw [if_neg hin]; exact Row166_no b hb hin w
  rw [if_neg h166]
  by_cases h170 : lead = 170
  · rw [if_pos h170]
    subst h170
    exact Row170 b hb w
  rw [if_neg h170]
  by_cases h171 : lead = 171
  · rw [if_pos h171]
    subst h171
    exact Row171 b hb w
  rw [if_neg h171]
  by_cases h172 : lead = 172
  · rw [if_pos h172]
    subst h172
    exact Row172 b hb w
  rw [if_neg h172]
  exact Row_no b hb lead ⟨h161, h162, h163, h164, h165, h166, h170, h171, h172⟩ w
end Go.Proofs.YtllmjlmeheohlaaDoor
