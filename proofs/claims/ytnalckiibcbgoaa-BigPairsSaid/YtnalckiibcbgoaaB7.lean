/- Contract of big5.Signs, for every two bytes. -/
import Derived.Test.YtnalckiibcbgoaaB6
import Derived.Test.YtnalckiibcbgoaaP6
set_option maxRecDepth 100000
set_option maxHeartbeats 1000000
namespace Go.Proofs.Ytnalckiibcbgoaa
open Go Go.RowKit

theorem nums_pair {W : World} {b B : Nat} {p q : Int} {k : IntKind} (hb : b < B) (c1 : W.cell? ⟨b, 1, none⟩ = some (.int k p)) (c2 : W.cell? ⟨b, 2, none⟩ = some (.int k q)) : Nums W B k (some ⟨b, 1, none⟩) [p, q] := by
  refine ⟨by simp, fun _ => ⟨_, rfl, hb, fun j u hu => ?_⟩⟩
  match j, hu with
  | 0, hu => simp at hu; rw [← hu]; exact c1
  | 1, hu => simp at hu; rw [← hu]; exact c2
  | j + 2, hu => simp at hu
def twoF : List (Int × Int × Int) → Int → Int → List Int
  | [], _, _ => []
  | t :: l, lead, b => if lead = 136 ∧ b = t.1 then [t.2.1, t.2.2] else twoF l lead b
def twoL (lead b : Int) : List Int := twoF TW lead b
theorem twoL_no {lead b : Int} (h : lead ≠ 136) : twoL lead b = [] := by
  simp [twoL, TW, twoF, h]
def tw1 (k : Nat) : Int := (TW.getD k (0, 0, 0)).1
def tw2 (k : Nat) : Int := (TW.getD k (0, 0, 0)).2.1
def tw3 (k : Nat) : Int := (TW.getD k (0, 0, 0)).2.2
theorem tw_facts : ∀ k, k < 4 → (98 ≤ tw1 k ∧ tw1 k ≤ 165) ∧ (202 ≤ tw2 k ∧ tw2 k ≤ 234) ∧ (772 ≤ tw3 k ∧ tw3 k ≤ 780) := by decide
theorem two_step {k : Nat} (h : k < 4) (lead b : Int) : twoF (TW.drop k) lead b = if lead = 136 ∧ b = tw1 k then [tw2 k, tw3 k] else twoF (TW.drop (k + 1)) lead b := by
  have hl : k < TW.length := by simpa [TW] using h
  rw [List.drop_eq_getElem_cons hl]
  simp only [twoF, tw1, tw2, tw3, List.getD_eq_getElem?_getD, List.getElem?_eq_getElem hl, Option.getD_some]
def TwoRel (lead b : Int) (w0 : World) (i : Value) (wr : World) : Prop := ∃ k : Nat, k ≤ 4 ∧ i = .int .i64 k ∧ twoL lead b = twoF (TW.drop k) lead b ∧ Below w0.heap.size w0 wr
def signsL (lead b : Int) : List Int := if oneZ lead b ≠ 0 then [oneZ lead b] else twoL lead b
theorem oneZ_small (lead b : Int) : oneZ lead b = 0 ∨ (128 < oneZ lead b ∧ oneZ lead b ≤ 65535 ∧ (oneZ lead b < 55296 ∨ 57343 < oneZ lead b)) := by
  unfold oneZ
  split
  · exact .inl rfl
  · exact oneL_small (fun _ h => h) lead _
theorem oneZ_scalar {lead b : Int} (h : oneZ lead b ≠ 0) : scalarB (oneZ lead b) = true := by
  have := oneZ_small lead b
  rw [scalarB_iff]; omega

theorem Signs_one (lead b : Int) (hl : 0 ≤ lead ∧ lead ≤ 255) (hb : 0 ≤ b ∧ b ≤ 255) (h1 : oneZ lead b ≠ 0) (w : World) :
    Calls Try.prog 7 #[.int .u8 lead, .int .u8 b] w fun e w' => e = .returned (.tuple #[.string ⟨(Lib.encodeRune (oneZ lead b)).toArray⟩, .bool true]) ∧ Below w.heap.size w w' := by
  have hone := fun w => One_any lead b hl hb w
  have hsc := oneZ_scalar h1
  rw [decide_eq_true h1] at hone
  generalize oneZ lead b = p at *
  clear h1
  go_enter Try.func7, Try.ntmps7
  go_wp2_with (first | (go_at_call 15; refine (hone _).mono ?_; rintro e w1 ⟨rfl, hb1⟩) | (go_at_call 16; refine (Text_one p hsc _ _).mono ?_; rintro e w2 ⟨rfl, hb2⟩))
  go_ret2
  exact ⟨rfl, hb1.trans ((below_a1 hb2).mono hb1.size)⟩

theorem Signs_none (lead b : Int) (hl : 0 ≤ lead ∧ lead ≤ 255) (hb : 0 ≤ b ∧ b ≤ 255) (h1 : oneZ lead b = 0) (w : World) :
    Calls Try.prog 7 #[.int .u8 lead, .int .u8 b] w fun e w' => e = .returned (.tuple #[.string ⟨(textL (twoL lead b)).toArray⟩, .bool (decide (twoL lead b ≠ []))]) ∧ Below w.heap.size w w' := by
  have hone := fun w => One_any lead b hl hb w
  rw [h1] at hone
  go_enter Try.func7, Try.ntmps7
  go_wp2_with (first | (go_at_call 15; refine (hone _).mono ?_; rintro e w1 ⟨rfl, hb1⟩) | (go_at_call 17; refine (Twos_abs _).mono ?_; rintro e w2 ⟨V, rfl, hV, hb2⟩))
  clear hone
  go_loopw [25] (fun i wr => TwoRel lead b w i wr) (fun i _ => 4 - (intOf i).toNat)
  case atStart => exact ⟨0, by omega, rfl, rfl, hb1.trans (hb2.mono hb1.size)⟩
  case round =>
    obtain ⟨k, hk, rfl, heq, hbr⟩ := hrel
    by_cases hk4 : k < 4
    · have hstep := Lib.hid (two_step hk4 lead b)
      obtain ⟨⟨f1, f2⟩, ⟨f3, f4⟩, f5, f6⟩ := tw_facts k hk4
      have hi := hV k hk4
      change ∀ w, (Instr.index 48 V (.int .i64 k)).run Try.prog w = .ok (.agg #[.int .i64 (tw1 k), .int .i32 (tw2 k), .int .i32 (tw3 k)]) w at hi
      have Heq := Lib.hid heq
      clear heq
      generalize tw1 k = S at *
      generalize tw2 k = p at *
      generalize tw3 k = q at *
      have hsc : ∀ x ∈ [p, q], scalarB x = true := by
        intro x hx
        rw [scalarB_iff]
        simp at hx
        rcases hx with rfl | rfl <;> omega
      have hbA := hbr.alloc hbr.size (.cells #[.int .i64 S, .int .i32 p, .int .i32 q] 47)
      by_cases h136 : lead = 136
      · by_cases hS : b = S
        · have hval := Lib.hid (show twoL lead b = [p, q] by rw [Heq.out, hstep.out, if_pos ⟨h136, hS⟩])
          clear hstep Heq
          subst h136 hS
          go_wp2_with (first | (go_at_call 16; refine (Text_good _ _ [p, q] _ (nums_pair (Nat.lt_succ_self _) (box3 _ _ _ _ _).2.1 (box3 _ _ _ _ _).2.2) (by simp) hsc (by simp)).mono ?_; rintro e w3 ⟨rfl, hb3⟩))
          go_ret2
          rw [hval.out]
          exact ⟨rfl, hbA.trans (hb3.mono hbA.size)⟩
        · have hval := Lib.hid (show twoL lead b = twoF (TW.drop (k + 1)) lead b by rw [Heq.out, hstep.out, if_neg (fun h => hS h.2)])
          clear hstep Heq
          subst h136
          go_wp2_with fail
          go_roundw
          case rel => exact ⟨k + 1, by omega, by go_num, hval.out, hbA⟩
          case measure => simp [intOf]; omega
      · have hval := Lib.hid (show twoL lead b = twoF (TW.drop (k + 1)) lead b by rw [Heq.out, hstep.out, if_neg (fun h => h136 h.1)])
        clear hstep Heq
        go_wp2_with fail
        go_roundw
        case rel => exact ⟨k + 1, by omega, by go_num, hval.out, hbA⟩
        case measure => simp [intOf]; omega
    · have hk2 : k = 4 := by omega
      subst hk2
      have hend := Lib.hid (show twoL lead b = [] from heq)
      clear hk4 heq
      go_wp2_with fail
      go_ret2
      rw [hend.out]
      exact ⟨rfl, hbr⟩
theorem Signs_any (lead b : Int) (hl : 0 ≤ lead ∧ lead ≤ 255) (hb : 0 ≤ b ∧ b ≤ 255) (w : World) :
    Calls Try.prog 7 #[.int .u8 lead, .int .u8 b] w fun e w' => e = .returned (.tuple #[.string ⟨(textL (signsL lead b)).toArray⟩, .bool (decide (signsL lead b ≠ []))]) ∧ Below w.heap.size w w' := by
  by_cases h1 : oneZ lead b = 0
  · have e : signsL lead b = twoL lead b := by unfold signsL; rw [if_neg (by simp [h1])]
    rw [e]
    exact Signs_none lead b hl hb h1 w
  · have e : signsL lead b = [oneZ lead b] := by unfold signsL; rw [if_pos h1]
    have e2 : textL [oneZ lead b] = Lib.encodeRune (oneZ lead b) := by simp [textL]
    rw [e, e2]
    exact Signs_one lead b hl hb h1 w
end Go.Proofs.Ytnalckiibcbgoaa
