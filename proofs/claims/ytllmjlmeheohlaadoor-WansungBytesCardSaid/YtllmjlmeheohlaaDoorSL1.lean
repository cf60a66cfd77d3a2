/- What the laws of chapter 07 lean on: each two bytes stand for one sign, and each sign's code leads back to it. No program in sight. -/
import Derived.Test.YtllmjlmeheohlaaDoorSZ
set_option maxRecDepth 100000
set_option maxHeartbeats 1000000
namespace Go.Proofs.YtllmjlmeheohlaaDoor
open Go Go.RowKit

theorem cnt_hit (b : Bool) (k : Nat) : ∀ N, k < cnt b N → ∃ n, n < N ∧ isIn n = b ∧ cnt b n = k
  | 0, h => absurd h (Nat.not_lt_zero _)
  | N + 1, h => by
    have hs : cnt b (N + 1) = cnt b N + (if isIn N = b then 1 else 0) := rfl
    by_cases hk : k < cnt b N
    · obtain ⟨n, h1, h2, h3⟩ := cnt_hit b k N hk
      exact ⟨n, by omega, h2, h3⟩
    · by_cases he : isIn N = b
      · rw [if_pos he] at hs
        exact ⟨N, by omega, he, by omega⟩
      · rw [if_neg he] at hs
        omega
theorem kth_ex (k : Nat) (b : Bool) : ∃ p, KthIs k b p := by
  by_cases h : k < cnt b 11172
  · obtain ⟨n, h1, h2, h3⟩ := cnt_hit b k _ h
    exact ⟨_, .inl ⟨n, h1, h2, h3, rfl⟩⟩
  · exact ⟨0, .inr ⟨by omega, rfl⟩⟩
theorem kthZ_ex (k : Int) (b : Bool) : ∃ p, KthZ k b p := by
  by_cases h : k < 0
  · exact ⟨0, .inl ⟨h, rfl⟩⟩
  · obtain ⟨p, hp⟩ := kth_ex k.toNat b
    exact ⟨p, .inr ⟨by omega, hp⟩⟩
theorem row_ex (lead b : Int) : ∃ p, RowIs lead b p := by
  unfold RowIs
  by_cases h1 : b = 255
  · exact ⟨0, by rw [if_pos h1]⟩
  · by_cases h2 : 176 ≤ lead ∧ lead ≤ 200
    · simp only [if_neg h1, if_pos h2]; exact kthZ_ex _ _
    · exact ⟨_, by rw [if_neg h1, if_neg h2]⟩
theorem row_uniq {lead b p q : Int} (h1 : RowIs lead b p) (h2 : RowIs lead b q) : p = q := by
  unfold RowIs at h1 h2
  by_cases e1 : b = 255
  · rw [if_pos e1] at h1 h2; omega
  · by_cases e2 : 176 ≤ lead ∧ lead ≤ 200
    · rw [if_neg e1, if_pos e2] at h1 h2; exact kthZ_uniq h1 h2
    · rw [if_neg e1, if_neg e2] at h1 h2; omega
theorem sign_ex (lead b : Int) : ∃ p, SignIs lead b p := by
  unfold SignIs
  by_cases h1 : secZ b < 0 ∨ lead < 129 ∨ 254 < lead
  · exact ⟨0, by rw [if_pos h1]⟩
  · by_cases h2 : lead < 161
    · simp only [if_neg h1, if_pos h2]; exact kthZ_ex _ _
    · by_cases h3 : b < 161
      · simp only [if_neg h1, if_neg h2, if_pos h3]; exact kthZ_ex _ _
      · simp only [if_neg h1, if_neg h2, if_neg h3]; exact row_ex _ _
theorem sign_uniq {lead b p q : Int} (h1 : SignIs lead b p) (h2 : SignIs lead b q) : p = q := by
  unfold SignIs at h1 h2
  by_cases e1 : secZ b < 0 ∨ lead < 129 ∨ 254 < lead
  · rw [if_pos e1] at h1 h2; omega
  · by_cases e2 : lead < 161
    · rw [if_neg e1, if_pos e2] at h1 h2; exact kthZ_uniq h1 h2
    · by_cases e3 : b < 161
      · rw [if_neg e1, if_neg e2, if_pos e3] at h1 h2; exact kthZ_uniq h1 h2
      · rw [if_neg e1, if_neg e2, if_neg e3] at h1 h2; exact row_uniq h1 h2
theorem kthZ_syl {k : Int} {b : Bool} {p : Int} (h : KthZ k b p) (hp : p ≠ 0) : ∃ n : Nat, n < 11172 ∧ isIn n = b ∧ (cnt b n : Int) = k ∧ p = 44032 + n := by
  rcases h with ⟨_, rfl⟩ | ⟨h0, ⟨n, h1, h2, h3, rfl⟩ | ⟨_, rfl⟩⟩
  · exact absurd rfl hp
  · exact ⟨n, h1, h2, by omega, rfl⟩
  · exact absurd rfl hp
theorem syl_kthZ {n : Nat} {b : Bool} {q : Int} (hn : n < 11172) (hb : isIn n = b) (h : KthZ (cnt b n) b q) : q = 44032 + n := by
  rcases h with ⟨h0, _⟩ | ⟨_, h⟩
  · omega
  · rw [Int.toNat_natCast] at h
    subst hb
    exact kth_rank hn h
theorem other_no (lead b : Int) (hl : 172 < lead) : otherZ lead b = 0 := by
  by_cases hb : 161 ≤ b ∧ b ≤ 254
  · by_cases h : lead ≤ 254
    · rw [← row_other lead b ⟨by omega, h⟩ hb]
      unfold rowZ
      rw [if_neg (by omega), if_neg (by omega), if_neg (by omega), if_neg (by omega), if_neg (by omega), if_neg (by omega), if_neg (by omega), if_neg (by omega), if_neg (by omega)]
    · unfold otherZ
      have h2 : (listW lead).isEmpty = true := by
        unfold listW
        rw [if_neg (by omega), if_neg (by omega), if_neg (by omega)]
        rfl
      rw [if_neg (by omega), if_pos h2, spanF_zero]
      intro s hs
      have := List.all_eq_true.1 spn_chk s hs
      simp only [Bool.and_eq_true, decide_eq_true_eq] at this
      omega
  · unfold otherZ
    rw [if_pos (by omega)]
theorem other_facts (lead b : Int) (hl : 161 ≤ lead) (hne : otherZ lead b ≠ 0) : lead ≤ 172 ∧ 161 ≤ b ∧ b ≤ 254 ∧ codeW (otherZ lead b) = lead * 256 + b ∧ 0 < otherZ lead b ∧ otherZ lead b ≤ 65535 ∧ ¬ (44032 ≤ otherZ lead b ∧ otherZ lead b ≤ 55203) := by
  have h1 : lead ≤ 172 := by
    by_cases h : lead ≤ 172
    · exact h
    · exact absurd (other_no lead b (by omega)) hne
  have h2 : 161 ≤ b ∧ b ≤ 254 := by
    by_cases h : b < 161 ∨ 254 < b
    · exact absurd (by unfold otherZ; rw [if_pos h]) hne
    · omega
  have c1 := List.all_eq_true.1 (List.all_eq_true.1 code_chk lead (mem_leadsW ⟨hl, h1⟩)) b (mem_bytesW h2)
  have c2 := List.all_eq_true.1 (List.all_eq_true.1 small_chk lead (mem_leadsW ⟨hl, h1⟩)) b (mem_bytesW h2)
  have hz : eqI (otherZ lead b) 0 = false := by
    rw [Bool.eq_false_iff]
    intro h
    exact hne (eqI_eq h)
  rw [hz, Bool.false_or] at c1 c2
  simp only [Bool.and_eq_true, decide_eq_true_eq, Bool.not_eq_true', Bool.and_eq_false_iff, decide_eq_false_iff_not] at c2
  exact ⟨h1, h2.1, h2.2, eqI_eq c1, c2.1.1, c2.1.2, by omega⟩
/-- The sign of two bytes leads back to them. -/
theorem sign_code {lead b p : Int} (h : SignIs lead b p) (hp : p ≠ 0) (hb : 0 ≤ b ∧ b ≤ 255) : codeP p = lead * 256 + b := by
  unfold SignIs at h
  have hsb := secZ_bd b
  by_cases e1 : secZ b < 0 ∨ lead < 129 ∨ 254 < lead
  · rw [if_pos e1] at h; exact absurd h hp
  rw [if_neg e1] at h
  have hbk := back_sec (b := b) (by omega)
  by_cases e2 : lead < 161
  · rw [if_pos e2] at h
    obtain ⟨n, h1, h2, h3, rfl⟩ := kthZ_syl h hp
    rw [code_ex h1 h2, h3]
    unfold exC
    rw [if_pos (by omega), show ((lead - 129) * 178 + secZ b) / 178 = lead - 129 by omega, show ((lead - 129) * 178 + secZ b) % 178 = secZ b by omega, hbk]
    omega
  rw [if_neg e2] at h
  by_cases e3 : b < 161
  · rw [if_pos e3] at h
    obtain ⟨n, h1, h2, h3, rfl⟩ := kthZ_syl h hp
    have h84 : secZ b < 84 := by
      unfold secZ
      repeat' split
      all_goals omega
    rw [code_ex h1 h2, h3]
    unfold exC
    rw [if_neg (by omega), show (5696 + (lead - 161) * 84 + secZ b - 5696) / 84 = lead - 161 by omega, show (5696 + (lead - 161) * 84 + secZ b - 5696) % 84 = secZ b by omega, hbk]
    omega
  rw [if_neg e3] at h
  unfold RowIs at h
  by_cases e4 : b = 255
  · rw [if_pos e4] at h; exact absurd h hp
  rw [if_neg e4] at h
  by_cases e5 : 176 ≤ lead ∧ lead ≤ 200
  · rw [if_pos e5] at h
    obtain ⟨n, h1, h2, h3, rfl⟩ := kthZ_syl h hp
    rw [code_in h1 h2, h3]
    unfold inC
    omega
  · rw [if_neg e5] at h
    subst h
    obtain ⟨_, _, _, h1, _, _, h2⟩ := other_facts lead b (by omega) hp
    unfold codeP
    rw [if_neg h2, h1]
/-- A syllable's code leads back to it. -/
theorem code_sign {n : Nat} {q : Int} (hn : n < 11172) (h : SignIs (codeP (44032 + n) / 256) (codeP (44032 + n) % 256) q) : q = 44032 + n := by
  cases hi : isIn n
  · have hk := cnt_lt hn hi
    rw [cnt_out] at hk
    rw [code_ex hn hi] at h
    refine syl_kthZ hn hi ?_
    generalize cnt false n = k at *
    unfold exC at h
    by_cases h5 : (k : Int) < 5696
    · rw [if_pos h5] at h
      obtain ⟨s1, s2, s3, _⟩ := sec_back (n := (k : Int) % 178) (by omega)
      generalize backZ ((k : Int) % 178) = s at *
      rw [show ((129 + (k : Int) / 178) * 256 + s) / 256 = 129 + (k : Int) / 178 by omega, show ((129 + (k : Int) / 178) * 256 + s) % 256 = s by omega] at h
      unfold SignIs at h
      rw [s1, if_neg (by omega), if_pos (by omega), show (129 + (k : Int) / 178 - 129) * 178 + (k : Int) % 178 = k by omega] at h
      exact h
    · rw [if_neg h5] at h
      obtain ⟨s1, s2, s3, s4⟩ := sec_back (n := ((k : Int) - 5696) % 84) (by omega)
      have s5 := s4 (by omega)
      generalize backZ (((k : Int) - 5696) % 84) = s at *
      rw [show ((161 + ((k : Int) - 5696) / 84) * 256 + s) / 256 = 161 + ((k : Int) - 5696) / 84 by omega, show ((161 + ((k : Int) - 5696) / 84) * 256 + s) % 256 = s by omega] at h
      unfold SignIs at h
      rw [s1, if_neg (by omega), if_neg (by omega), if_pos s5, show 5696 + (161 + ((k : Int) - 5696) / 84 - 161) * 84 + ((k : Int) - 5696) % 84 = k by omega] at h
      exact h
  · have hk := cnt_lt hn hi
    rw [cnt_in] at hk
    rw [code_in hn hi] at h
    refine syl_kthZ hn hi ?_
    generalize cnt true n = k at *
    unfold inC at h
    rw [show ((161 + ((k : Int) + 1410) / 94) * 256 + (161 + ((k : Int) + 1410) % 94)) / 256 = 161 + ((k : Int) + 1410) / 94 by omega, show ((161 + ((k : Int) + 1410) / 94) * 256 + (161 + ((k : Int) + 1410) % 94)) % 256 = 161 + ((k : Int) + 1410) % 94 by omega] at h
    have hs : ¬ secZ (161 + ((k : Int) + 1410) % 94) < 0 := by
      unfold secZ
      rw [if_neg (by omega), if_neg (by omega), if_pos (by omega)]
      omega
    unfold SignIs at h
    rw [if_neg (by omega), if_neg (by omega), if_neg (by omega)] at h
    unfold RowIs at h
    rw [if_neg (by omega), if_pos (by omega), show (161 + ((k : Int) + 1410) / 94 - 176) * 94 + (161 + ((k : Int) + 1410) % 94) - 161 = k by omega] at h
    exact h
theorem code_syl_bd {n : Nat} (hn : n < 11172) : 0 ≤ codeP (44032 + n) ∧ codeP (44032 + n) ≤ 65535 := by
  cases hi : isIn n
  · have hk := cnt_lt hn hi
    rw [cnt_out] at hk
    rw [code_ex hn hi]
    unfold exC
    have h1 := sec_back (n := (cnt false n : Int) % 178) (by omega)
    have h2 := sec_back (n := ((cnt false n : Int) - 5696) % 84) (by omega)
    split <;> omega
  · have hk := cnt_lt hn hi
    rw [cnt_in] at hk
    rw [code_in hn hi]
    unfold inC
    omega
theorem codeW_hit {p : Int} (h : 0 ≤ codeW p) : ∃ l b : Int, 161 ≤ l ∧ l ≤ 172 ∧ 161 ≤ b ∧ b ≤ 254 ∧ otherZ l b = p ∧ codeW p = l * 256 + b ∧ 0 < p := by
  have hl : ∀ (x : Int), x = 161 ∨ x = 162 ∨ x = 166 → 0 ≤ fnd (listW x) p → otherZ x (161 + fnd (listW x) p) = p ∧ fnd (listW x) p < 94 ∧ 0 < p := by
    intro x hx hf
    have h1 := fnd_get hf
    have h2 := fnd_lt (listW x) p
    have h3 := len_list x
    have h4 := List.all_eq_true.1 (List.all_eq_true.1 list_chk x (by simp; omega)) (fnd (listW x) p).toNat (List.mem_range.2 (by omega))
    have h5 := eqI_eq h4
    rw [show (161 : Int) + Int.ofNat (fnd (listW x) p).toNat = 161 + fnd (listW x) p by show (161 : Int) + ((fnd (listW x) p).toNat : Int) = _; omega, h1] at h5
    have h6 := pos_list x p (by rw [← h1]; exact getD_mem (by omega))
    exact ⟨h5, by omega, h6.1⟩
  have hs : ∀ k, k ≤ 19 → 0 ≤ spanC (SPN.drop (19 - k)) p → ∃ l b : Int, 161 ≤ l ∧ l ≤ 172 ∧ 161 ≤ b ∧ b ≤ 254 ∧ otherZ l b = p ∧ spanC (SPN.drop (19 - k)) p = l * 256 + b ∧ 0 < p := by
    intro k
    induction k with
    | zero => intro _ h; exact absurd h (by show ¬ 0 ≤ spanC [] p; simp [spanC])
    | succ k ih =>
      intro hk h
      have hst := code_step (by omega : 19 - (k + 1) < 19) p
      rw [show 19 - (k + 1) + 1 = 19 - k by omega] at hst
      rw [hst] at h ⊢
      have hm : (spC (19 - (k + 1)), spT (19 - (k + 1)), spN (19 - (k + 1))) ∈ SPN := by
        have hl : 19 - (k + 1) < SPN.length := by simp [SPN]; omega
        have : SPN[19 - (k + 1)] = (spC (19 - (k + 1)), spT (19 - (k + 1)), spN (19 - (k + 1))) := by
          simp only [spC, spT, spN, List.getD_eq_getElem?_getD, List.getElem?_eq_getElem hl, Option.getD_some]
        rw [← this]
        exact List.getElem_mem hl
      by_cases hc : spT (19 - (k + 1)) ≤ p ∧ p - spT (19 - (k + 1)) < spN (19 - (k + 1))
      · rw [if_pos hc]
        have h1 := List.all_eq_true.1 spn_chk _ hm
        simp only [Bool.and_eq_true, decide_eq_true_eq] at h1
        have h2 := List.all_eq_true.1 (List.all_eq_true.1 span_chk _ hm) (p - spT (19 - (k + 1))).toNat (List.mem_range.2 (by show _ < (spN (19 - (k + 1))).toNat; omega))
        have h3 := eqI_eq h2
        simp only at h3
        generalize spC (19 - (k + 1)) = C at *
        generalize spT (19 - (k + 1)) = T at *
        generalize spN (19 - (k + 1)) = N at *
        have e : Int.ofNat (p - T).toNat = p - T := by show ((p - T).toNat : Int) = _; omega
        rw [e] at h3
        refine ⟨(C + (p - T)) / 256, (C + (p - T)) % 256, by omega, by omega, by omega, by omega, ?_, by omega, by omega⟩
        rw [h3]; omega
      · rw [if_neg hc] at h ⊢
        exact ih (by omega) h
  unfold codeW at h ⊢
  by_cases h1 : 0 ≤ fnd LA1 p
  · rw [if_pos h1]
    obtain ⟨a, b, c⟩ := hl 161 (by omega) h1
    have a' : otherZ 161 (161 + fnd LA1 p) = p := a
    have b' : fnd LA1 p < 94 := b
    exact ⟨161, 161 + fnd LA1 p, by omega, by omega, by omega, by omega, a', by omega, c⟩
  rw [if_neg h1] at h ⊢
  by_cases h2 : 0 ≤ fnd LA2 p
  · rw [if_pos h2]
    obtain ⟨a, b, c⟩ := hl 162 (by omega) h2
    have a' : otherZ 162 (161 + fnd LA2 p) = p := a
    have b' : fnd LA2 p < 94 := b
    exact ⟨162, 161 + fnd LA2 p, by omega, by omega, by omega, by omega, a', by omega, c⟩
  rw [if_neg h2] at h ⊢
  by_cases h6 : 0 ≤ fnd LA6 p
  · rw [if_pos h6]
    obtain ⟨a, b, c⟩ := hl 166 (by omega) h6
    have a' : otherZ 166 (161 + fnd LA6 p) = p := a
    have b' : fnd LA6 p < 94 := b
    exact ⟨166, 161 + fnd LA6 p, by omega, by omega, by omega, by omega, a', by omega, c⟩
  rw [if_neg h6] at h ⊢
  exact hs 19 (by omega) h
/-- The document's code of a sign is the program's. -/
theorem rc_code {p c : Int} (h : RcIs p c) (hp : 0 < p) : (c < 0 ∧ codeW p < 0) ∨ (0 ≤ c ∧ codeW p = c) := by
  rcases h with ⟨l, b, h1, h2, h3, h4, h5, rfl⟩ | ⟨rfl, hno⟩
  · right
    rw [row_other l b ⟨h1, by omega⟩ ⟨h3, h4⟩] at h5
    have := other_facts l b h1 (by omega)
    rw [h5] at this
    exact ⟨by omega, this.2.2.2.1⟩
  · left
    refine ⟨by decide, ?_⟩
    by_cases h : 0 ≤ codeW p
    · obtain ⟨l, b, h1, h2, h3, h4, h5, _, _⟩ := codeW_hit h
      exact absurd (by rw [row_other l b ⟨h1, by omega⟩ ⟨h3, h4⟩]; exact h5) (hno l b h1 h2 h3 h4)
    · omega
theorem codeW_neg {p : Int} (hp : p ≤ 0) : codeW p < 0 := by
  by_cases h : 0 ≤ codeW p
  · obtain ⟨_, _, _, _, _, _, _, _, h0⟩ := codeW_hit h
    omega
  · omega
end Go.Proofs.YtllmjlmeheohlaaDoor
