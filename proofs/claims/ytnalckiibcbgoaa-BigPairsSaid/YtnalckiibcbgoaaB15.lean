/- The pairs of chapter 08 in plain numbers: how many codes stand below a number. No program in sight. -/
import Derived.Test.YtnalckiibcbgoaaB9
set_option maxRecDepth 100000
set_option maxHeartbeats 1000000
namespace Go.Proofs.Ytnalckiibcbgoaa
open Go

def FP : List (Int × Int) := flatL SP
def cd (i : Nat) : Int := (FP.getD i (0, 0)).1
def pt (i : Nat) : Int := (FP.getD i (0, 0)).2
def sortB : List (Int × Int) → Bool
  | a :: b :: l => decide (a.1 < b.1) && sortB (b :: l)
  | _ => true
theorem FP_len : FP.length = 610 := by decide +kernel
theorem FP_sort : sortB FP = true := by decide +kernel
theorem FP_all : FP.all (fun t => decide (64 ≤ t.1 % 256 ∧ t.1 % 256 ≤ 254 ∧ 129 ≤ t.1 / 256 ∧ t.1 / 256 ≤ 254 ∧ t.2 ≠ 0 ∧ rOne (t.1 / 256) (cellZ (t.1 % 256)) = t.2)) = true := by decide +kernel
theorem sortB_lt : ∀ (l : List (Int × Int)) (i j : Nat), sortB l = true → i < j → j < l.length → (l.getD i (0, 0)).1 < (l.getD j (0, 0)).1
  | [], i, j, _, _, h => by simp at h
  | [a], i, j, _, h1, h2 => by simp at h2; omega
  | a :: b :: l, i, j, hs, hij, hj => by
    simp only [sortB, Bool.and_eq_true, decide_eq_true_eq] at hs
    cases j with
    | zero => omega
    | succ j =>
      have hb := fun i h => sortB_lt (b :: l) i j hs.2 h (by simpa using hj)
      cases i with
      | zero =>
        simp only [List.getD_cons_zero, List.getD_cons_succ]
        by_cases h0 : j = 0
        · subst h0; exact hs.1
        · have := hb 0 (by omega)
          simp only [List.getD_cons_zero] at this
          omega
      | succ i =>
        simp only [List.getD_cons_succ]
        exact hb i (by omega)
theorem cd_lt {i j : Nat} (h : i < j) (hj : j < 610) : cd i < cd j := sortB_lt FP i j FP_sort h (by rw [FP_len]; exact hj)
theorem FP_mem {i : Nat} (h : i < 610) : FP.getD i (0, 0) ∈ FP := by
  have hl : i < FP.length := by rw [FP_len]; exact h
  rw [List.getD_eq_getElem?_getD, List.getElem?_eq_getElem hl]; simp
theorem FP_at {i : Nat} (h : i < 610) : 64 ≤ cd i % 256 ∧ cd i % 256 ≤ 254 ∧ 129 ≤ cd i / 256 ∧ cd i / 256 ≤ 254 ∧ pt i ≠ 0 ∧ rOne (cd i / 256) (cellZ (cd i % 256)) = pt i := by
  have := List.all_eq_true.1 FP_all _ (FP_mem h)
  simp only [decide_eq_true_eq] at this
  exact this
theorem look_mem : ∀ (l : List (Int × Int)) (p : Int), lookP l p ≠ -1 → (lookP l p, p) ∈ l
  | [], p, h => by simp [lookP] at h
  | t :: l, p, h => by
    simp only [lookP] at h ⊢
    by_cases e : t.2 = p
    · rw [if_pos e, ← e]; simp
    · rw [if_neg e] at h ⊢
      exact List.mem_cons_of_mem _ (look_mem l p h)
theorem one_code {lead b : Int} (hb : 0 ≤ cellZ b) (hp : rOne lead (cellZ b) ≠ 0) : lookP FP (rOne lead (cellZ b)) = lead * 256 + b := by
  have h := one_any lead b hb
  rw [← h.1] at hp ⊢
  rcases h.2 with h2 | h2
  · exact absurd h2 hp
  · rw [find_look] at h2; exact h2
theorem cell_nn {lead b : Int} (hp : rOne lead (cellZ b) ≠ 0) : 0 ≤ cellZ b := by
  by_cases h : cellZ b < 0
  · exact absurd (if_pos h) hp
  · omega
def Inv (k : Nat) (c : Int) : Prop := k ≤ 610 ∧ (∀ i, i < k → cd i < c) ∧ (∀ i, k ≤ i → i < 610 → c ≤ cd i)
theorem Inv.start : Inv 0 (129 * 256 + 64) := ⟨by omega, fun i h => absurd h (by omega), fun i _ h => by
  have := FP_at h
  omega⟩
theorem Inv.skip {k : Nat} {lead b : Int} (h : Inv k (lead * 256 + b)) (hb : 0 ≤ b ∧ b ≤ 255) (hp : rOne lead (cellZ b) = 0) : Inv k (lead * 256 + (b + 1)) := by
  refine ⟨h.1, fun i hi => by have := h.2.1 i hi; omega, fun i h1 h2 => ?_⟩
  have h3 := h.2.2 i h1 h2
  by_cases e : cd i = lead * 256 + b
  · obtain ⟨_, _, _, _, h5, h6⟩ := FP_at h2
    rw [show cd i / 256 = lead by omega, show cd i % 256 = b by omega, hp] at h6
    exact absurd h6.symm h5
  · omega
theorem Inv.take {k : Nat} {lead b : Int} (h : Inv k (lead * 256 + b)) (hl : 0 ≤ lead) (hb : 0 ≤ b ∧ b ≤ 255) (hp : rOne lead (cellZ b) ≠ 0) : k < 610 ∧ cd k = lead * 256 + b ∧ pt k = rOne lead (cellZ b) ∧ (∀ i, i < k → pt i ≠ rOne lead (cellZ b)) ∧ Inv (k + 1) (lead * 256 + (b + 1)) := by
  have hc := cell_nn hp
  have hlk := one_code hc hp
  have hm := look_mem FP (rOne lead (cellZ b)) (by rw [hlk]; omega)
  rw [hlk] at hm
  obtain ⟨i, hi, e⟩ := List.getElem_of_mem hm
  rw [FP_len] at hi
  have ei : FP.getD i (0, 0) = (lead * 256 + b, rOne lead (cellZ b)) := by
    rw [List.getD_eq_getElem?_getD, List.getElem?_eq_getElem (by rw [FP_len]; exact hi), e]; rfl
  have ec : cd i = lead * 256 + b := by unfold cd; rw [ei]
  have ep : pt i = rOne lead (cellZ b) := by unfold pt; rw [ei]
  have hki : k = i := by
    by_cases h1 : i < k
    · have := h.2.1 i h1; omega
    · by_cases h2 : k < i
      · have h3 := cd_lt h2 hi
        have h4 := h.2.2 k (by omega) (by omega)
        omega
      · omega
  subst hki
  refine ⟨hi, ec, ep, fun j hj hpj => ?_, by omega, fun j hj => ?_, fun j h1 h2 => ?_⟩
  · obtain ⟨q1, q2, q3, q4, q5, q6⟩ := FP_at (show j < 610 by omega)
    have hq : rOne (cd j / 256) (cellZ (cd j % 256)) ≠ 0 := by rw [q6]; exact q5
    have := one_code (cell_nn hq) hq
    rw [q6, hpj, hlk] at this
    have := h.2.1 j hj
    omega
  · by_cases e : j = k
    · subst e; omega
    · have := h.2.1 j (by omega); omega
  · have := cd_lt (show k < j by omega) h2
    omega
theorem Inv.next {k : Nat} {lead : Int} (h : Inv k (lead * 256 + 255)) : Inv k ((lead + 1) * 256 + 64) := by
  refine ⟨h.1, fun i hi => by have := h.2.1 i hi; omega, fun i h1 h2 => ?_⟩
  have h3 := h.2.2 i h1 h2
  have := FP_at h2
  omega
theorem Inv.last {k : Nat} (h : Inv k (255 * 256 + 64)) : k = 610 := by
  by_cases e : k = 610
  · exact e
  · have h1 := h.1
    have h3 := h.2.2 k (Nat.le_refl _) (by omega)
    have := FP_at (show k < 610 by omega)
    omega
end Go.Proofs.Ytnalckiibcbgoaa
