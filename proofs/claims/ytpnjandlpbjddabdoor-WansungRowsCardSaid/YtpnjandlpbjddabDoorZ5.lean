/- What the laws of chapter 07 lean on: each two bytes stand for one sign, and each sign's code leads back to it. No program in sight. -/
import Derived.Test.YtpnjandlpbjddabDoorZ4
import Derived.Test.YtpnjandlpbjddabDoorZ1
import Derived.Lib.LaidTab
import Derived.Test.YtpnjandlpbjddabDoorZ2
import Derived.Test.YtpnjandlpbjddabDoorZ3
set_option maxRecDepth 100000
set_option maxHeartbeats 1000000
namespace Go.Proofs.YtpnjandlpbjddabDoor
open Go Go.RowKit

theorem cnt_hit (b : Bool) (k : Nat) : ∀ N, k < cnt b N → ∃ n, n < N ∧ isIn n = b ∧ cnt b n = k
  | 0, h => absurd h (Nat.not_lt_zero _)
  | N + 1, h => by
    have hs : cnt b (N + 1) = cnt b N + (if isIn N = b then 1 else 0) := rfl
    by_cases hk : k < cnt b N
    · obtain ⟨n, h1, h2, h3⟩ := cnt_hit b k N hk
      exact ⟨n, by omega, h2, h3⟩
    · by_cases he : isIn N = b
      · rw [if_pos he] at hs
        exact ⟨N, by omega, he, by omega⟩
      · rw [if_neg he] at hs
        omega
theorem kth_ex (k : Nat) (b : Bool) : ∃ p, KthIs k b p := by
  by_cases h : k < cnt b 11172
  · obtain ⟨n, h1, h2, h3⟩ := cnt_hit b k _ h
    exact ⟨_, .inl ⟨n, h1, h2, h3, rfl⟩⟩
  · exact ⟨0, .inr ⟨by omega, rfl⟩⟩
theorem kthZ_ex (k : Int) (b : Bool) : ∃ p, KthZ k b p := by
  by_cases h : k < 0
  · exact ⟨0, .inl ⟨h, rfl⟩⟩
  · obtain ⟨p, hp⟩ := kth_ex k.toNat b
    exact ⟨p, .inr ⟨by omega, hp⟩⟩
theorem row_ex (lead b : Int) : ∃ p, RowIs lead b p := by
  unfold RowIs
  by_cases h1 : b = 255
  · exact ⟨0, by rw [if_pos h1]⟩
  · by_cases h2 : 176 ≤ lead ∧ lead ≤ 200
    · simp only [if_neg h1, if_pos h2]; exact kthZ_ex _ _
    · exact ⟨_, by rw [if_neg h1, if_neg h2]⟩
theorem row_uniq {lead b p q : Int} (h1 : RowIs lead b p) (h2 : RowIs lead b q) : p = q := by
  unfold RowIs at h1 h2
  by_cases e1 : b = 255
  · rw [if_pos e1] at h1 h2; omega
  · by_cases e2 : 176 ≤ lead ∧ lead ≤ 200
    · rw [if_neg e1, if_pos e2] at h1 h2; exact kthZ_uniq h1 h2
    · rw [if_neg e1, if_neg e2] at h1 h2; omega
theorem sign_ex (lead b : Int) : ∃ p, SignIs lead b p := by
  unfold SignIs
  by_cases h1 : secZ b < 0 ∨ lead < 129 ∨ 254 < lead
  · exact ⟨0, by rw [if_pos h1]⟩
  · by_cases h2 : lead < 161
    · simp only [if_neg h1, if_pos h2]; exact kthZ_ex _ _
    · by_cases h3 : b < 161
      · simp only [if_neg h1, if_neg h2, if_pos h3]; exact kthZ_ex _ _
      · simp only [if_neg h1, if_neg h2, if_neg h3]; exact row_ex _ _
theorem sign_uniq {lead b p q : Int} (h1 : SignIs lead b p) (h2 : SignIs lead b q) : p = q := by
  unfold SignIs at h1 h2
  by_cases e1 : secZ b < 0 ∨ lead < 129 ∨ 254 < lead
  · rw [if_pos e1] at h1 h2; omega
  · by_cases e2 : lead < 161
    · rw [if_neg e1, if_pos e2] at h1 h2; exact kthZ_uniq h1 h2
    · by_cases e3 : b < 161
      · rw [if_neg e1, if_neg e2, if_pos e3] at h1 h2; exact kthZ_uniq h1 h2
      · rw [if_neg e1, if_neg e2, if_neg e3] at h1 h2; exact row_uniq h1 h2
theorem kthZ_syl {k : Int} {b : Bool} {p : Int} (h : KthZ k b p) (hp : p ≠ 0) : ∃ n : Nat, n < 11172 ∧ isIn n = b ∧ (cnt b n : Int) = k ∧ p = 44032 + n := by
  rcases h with ⟨_, rfl⟩ | ⟨h0, ⟨n, h1, h2, h3, rfl⟩ | ⟨_, rfl⟩⟩
  · exact absurd rfl hp
  · exact ⟨n, h1, h2, by omega, rfl⟩
  · exact absurd rfl hp
theorem syl_kthZ {n : Nat} {b : Bool} {q : Int} (hn : n < 11172) (hb : isIn n = b) (h : KthZ (cnt b n) b q) : q = 44032 + n := by
  rcases h with ⟨h0, _⟩ | ⟨_, h⟩
  · omega
  · rw [Int.toNat_natCast] at h
    subst hb
    exact kth_rank hn h
theorem other_no (lead b : Int) (hl : 172 < lead) : otherZ lead b = 0 := by
  by_cases hb : 161 ≤ b ∧ b ≤ 254
  · by_cases h : lead ≤ 254
    · rw [← row_other lead b ⟨by omega, h⟩ hb]
      unfold rowZ
      rw [if_neg (by omega), if_neg (by omega), if_neg (by omega), if_neg (by omega), if_neg (by omega), if_neg (by omega), if_neg (by omega), if_neg (by omega), if_neg (by omega)]
    · unfold otherZ
      have h2 : (listW lead).isEmpty = true := by
        unfold listW
        rw [if_neg (by omega), if_neg (by omega), if_neg (by omega)]
        rfl
      rw [if_neg (by omega), if_pos h2, spanF_zero]
      intro s hs
      have := List.all_eq_true.1 spn_chk s hs
      simp only [Bool.and_eq_true, decide_eq_true_eq] at this
      omega
  · unfold otherZ
    rw [if_pos (by omega)]
theorem other_facts (lead b : Int) (hl : 161 ≤ lead) (hne : otherZ lead b ≠ 0) : lead ≤ 172 ∧ 161 ≤ b ∧ b ≤ 254 ∧ codeW (otherZ lead b) = lead * 256 + b ∧ 0 < otherZ lead b ∧ otherZ lead b ≤ 65535 ∧ ¬ (44032 ≤ otherZ lead b ∧ otherZ lead b ≤ 55203) := by
  have h1 : lead ≤ 172 := by
    by_cases h : lead ≤ 172
    · exact h
    · exact absurd (other_no lead b (by omega)) hne
  have h2 : 161 ≤ b ∧ b ≤ 254 := by
    by_cases h : b < 161 ∨ 254 < b
    · exact absurd (by unfold otherZ; rw [if_pos h]) hne
    · omega
  have c1 := List.all_eq_true.1 (List.all_eq_true.1 code_chk lead (mem_leadsW ⟨hl, h1⟩)) b (mem_bytesW h2)
  have c2 := List.all_eq_true.1 (List.all_eq_true.1 small_chk lead (mem_leadsW ⟨hl, h1⟩)) b (mem_bytesW h2)
  have hz : eqI (otherZ lead b) 0 = false := by
    rw [Bool.eq_false_iff]
    intro h
    exact hne (eqI_eq h)
  rw [hz, Bool.false_or] at c1 c2
  simp only [Bool.and_eq_true, decide_eq_true_eq, Bool.not_eq_true', Bool.and_eq_false_iff, decide_eq_false_iff_not] at c2
  exact ⟨h1, h2.1, h2.2, eqI_eq c1, c2.1.1, c2.1.2, by omega⟩
/-- The sign of two bytes leads back to them. -/
theorem sign_code {lead b p : Int} (h : SignIs lead b p) (hp : p ≠ 0) (hb : 0 ≤ b ∧ b ≤ 255) : codeP p = lead * 256 + b := by
  unfold SignIs at h
  have hsb := secZ_bd b
  by_cases e1 : secZ b < 0 ∨ lead < 129 ∨ 254 < lead
  · rw [if_pos e1] at h; exact absurd h hp
  rw [if_neg e1] at h
  have hbk := back_sec (b := b) (by omega)
  by_cases e2 : lead < 161
  · rw [if_pos e2] at h
    obtain ⟨n, h1, h2, h3, rfl⟩ := kthZ_syl h hp
    rw [code_ex h1 h2, h3]
    unfold exC
    rw [if_pos (by omega), show ((lead - 129) * 178 + secZ b) / 178 = lead - 129 by omega, show ((lead - 129) * 178 + secZ b) % 178 = secZ b by omega, hbk]
    omega
  rw [if_neg e2] at h
  by_cases e3 : b < 161
  · rw [if_pos e3] at h
    obtain ⟨n, h1, h2, h3, rfl⟩ := kthZ_syl h hp
    have h84 : secZ b < 84 := by
      unfold secZ
      repeat' split
      all_goals omega
    rw [code_ex h1 h2, h3]
    unfold exC
    rw [if_neg (by omega), show (5696 + (lead - 161) * 84 + secZ b - 5696) / 84 = lead - 161 by omega, show (5696 + (lead - 161) * 84 + secZ b - 5696) % 84 = secZ b by omega, hbk]
    omega
  rw [if_neg e3] at h
  unfold RowIs at h
  by_cases e4 : b = 255
  · rw [if_pos e4] at h; exact absurd h hp
  rw [if_neg e4] at h
  by_cases e5 : 176 ≤ lead ∧ lead ≤ 200
  · rw [if_pos e5] at h
    obtain ⟨n, h1, h2, h3, rfl⟩ := kthZ_syl h hp
    rw [code_in h1 h2, h3]
    unfold inC
    omega
  · rw [if_neg e5] at h
    subst h
    obtain ⟨_, _, _, h1, _, _, h2⟩ := other_facts lead b (by omega) hp
    unfold codeP
    rw [if_neg h2, h1]
/-- A syllable's code leads back to it. -/
theorem code_sign {n : Nat} {q : Int} (hn : n < 11172) (h : SignIs (codeP (44032 + n) / 256) (codeP (44032 + n) % 256) q) : q = 44032 + n := by
  cases hi : isIn n
  · have hk := cnt_lt hn hi
    rw [cnt_out] at hk
    rw [code_ex hn hi] at h
    refine syl_kthZ hn hi ?_
    generalize cnt false n = k at *
    unfold exC at h
    by_cases h5 : (k : Int) < 5696
    · rw [if_pos h5] at h
      obtain ⟨s1, s2, s3, _⟩ := sec_back (n := (k : Int) % 178) (by omega)
      generalize backZ ((k : Int) % 178) = s at *
      rw [show ((129 + (k : Int) / 178) * 256 + s) / 256 = 129 + (k : Int) / 178 by omega, show ((129 + (k : Int) / 178) * 256 + s) % 256 = s by omega] at h
      unfold SignIs at h
      rw [s1, if_neg (by omega), if_pos (by omega), show (129 + (k : Int) / 178 - 129) * 178 + (k : Int) % 178 = k by omega] at h
      exact h
    · rw [if_neg h5] at h
      obtain ⟨s1, s2, s3, s4⟩ := sec_back (n := ((k : Int) - 5696) % 84) (by omega)
      have s5 := s4 (by omega)
      generalize backZ (((k : Int) - 5696) % 84) = s at *
      rw [show ((161 + ((k : Int) - 5696) / 84) * 256 + s) / 256 = 161 + ((k : Int) - 5696) / 84 by omega, show ((161 + ((k : Int) - 5696) / 84) * 256 + s) % 256 = s by omega] at h
      unfold SignIs at h
      rw [s1, if_neg (by omega), if_neg (by omega), if_pos s5, show 5696 + (161 + ((k : Int) - 5696) / 84 - 161) * 84 + ((k : Int) - 5696) % 84 = k by omega] at h
      exact h
  · have hk := cnt_lt hn hi
    rw [cnt_in] at hk
    rw [code_in hn hi] at h
    refine syl_kthZ hn hi ?_
    generalize cnt true n = k at *
    unfold inC at h
    rw [show ((161 + ((k : Int) + 1410) / 94) * 256 + (161 + ((k : Int) + 1410) % 94)) / 256 = 161 + ((k : Int) + 1410) / 94 by omega, show ((161 + ((k : Int) + 1410) / 94) * 256 + (161 + ((k : Int) + 1410) % 94)) % 256 = 161 + ((k : Int) + 1410) % 94 by omega] at h
    have hs : ¬ secZ (161 + ((k : Int) + 1410) % 94) < 0 := by
      unfold secZ
      rw [if_neg (by omega), if_neg (by omega), if_pos (by omega)]
      omega
    unfold SignIs at h
    rw [if_neg (by omega), if_neg (by omega), if_neg (by omega)] at h
    unfold RowIs at h
    rw [if_neg (by omega), if_pos (by omega), show (161 + ((k : Int) + 1410) / 94 - 176) * 94 + (161 + ((k : Int) + 1410) % 94) - 161 = k by omega] at h
    exact h
theorem code_syl_bd {n : Nat} (hn : n < 11172) : 0 ≤ codeP (44032 + n) ∧ codeP (44032 + n) ≤ 65535 := by
  cases hi : isIn n
  · have hk := cnt_lt hn hi
    rw [cnt_out] at hk
    rw [code_ex hn hi]
    unfold exC
    have h1 := sec_back (n := (cnt false n : Int) % 178) (by omega)
    have h2 := sec_back (n := ((cnt false n : Int) - 5696) % 84) (by omega)
    split <;> omega
  · have hk := cnt_lt hn hi
    rw [cnt_in] at hk
    rw [code_in hn hi]
    unfold inC
    omega
theorem codeW_hit {p : Int} (h : 0 ≤ codeW p) : ∃ l b : Int, 161 ≤ l ∧ l ≤ 172 ∧ 161 ≤ b ∧ b ≤ 254 ∧ otherZ l b = p ∧ codeW p = l * 256 + b ∧ 0 < p := by
  have hl : ∀ (x : Int), x = 161 ∨ x = 162 ∨ x = 166 → 0 ≤ fnd (listW x) p → otherZ x (161 + fnd (listW x) p) = p ∧ fnd (listW x) p < 94 ∧ 0 < p := by
    intro x hx hf
    have h1 := fnd_get hf
    have h2 := fnd_lt (listW x) p
    have h3 := len_list x
    have h4 := List.all_eq_true.1 (List.all_eq_true.1 list_chk x (by simp; omega)) (fnd (listW x) p).toNat (List.mem_range.2 (by omega))
    have h5 := eqI_eq h4
    rw [show (161 : Int) + Int.ofNat (fnd (listW x) p).toNat = 161 + fnd (listW x) p by show (161 : Int) + ((fnd (listW x) p).toNat : Int) = _; omega, h1] at h5
    have h6 := pos_list x p (by rw [← h1]; exact getD_mem (by omega))
    exact ⟨h5, by omega, h6.1⟩
  have hs : ∀ k, k ≤ 19 → 0 ≤ spanC (SPN.drop (19 - k)) p → ∃ l b : Int, 161 ≤ l ∧ l ≤ 172 ∧ 161 ≤ b ∧ b ≤ 254 ∧ otherZ l b = p ∧ spanC (SPN.drop (19 - k)) p = l * 256 + b ∧ 0 < p := by
    intro k
    induction k with
    | zero => intro _ h; exact absurd h (by show ¬ 0 ≤ spanC [] p; simp [spanC])
    | succ k ih =>
      intro hk h
      have hst := code_step (by omega : 19 - (k + 1) < 19) p
      rw [show 19 - (k + 1) + 1 = 19 - k by omega] at hst
      rw [hst] at h ⊢
      have hm : (spC (19 - (k + 1)), spT (19 - (k + 1)), spN (19 - (k + 1))) ∈ SPN := by
        have hl : 19 - (k + 1) < SPN.length := by simp [SPN]; omega
        have : SPN[19 - (k + 1)] = (spC (19 - (k + 1)), spT (19 - (k + 1)), spN (19 - (k + 1))) := by
          simp only [spC, spT, spN, List.getD_eq_getElem?_getD, List.getElem?_eq_getElem hl, Option.getD_some]
        rw [← this]
        exact List.getElem_mem hl
      by_cases hc : spT (19 - (k + 1)) ≤ p ∧ p - spT (19 - (k + 1)) < spN (19 - (k + 1))
      · rw [if_pos hc]
        have h1 := List.all_eq_true.1 spn_chk _ hm
        simp only [Bool.and_eq_true, decide_eq_true_eq] at h1
        have h2 := List.all_eq_true.1 (List.all_eq_true.1 span_chk _ hm) (p - spT (19 - (k + 1))).toNat (List.mem_range.2 (by show _ < (spN (19 - (k + 1))).toNat; omega))
        have h3 := eqI_eq h2
        simp only at h3
        generalize spC (19 - (k + 1)) = C at *
        generalize spT (19 - (k + 1)) = T at *
        generalize spN (19 - (k + 1)) = N at *
        have e : Int.ofNat (p - T).toNat = p - T := by show ((p - T).toNat : Int) = _; omega
        rw [e] at h3
        refine ⟨(C + (p - T)) / 256, (C + (p - T)) % 256, by omega, by omega, by omega, by omega, ?_, by omega, by omega⟩
        rw [h3]; omega
      · rw [if_neg hc] at h ⊢
        exact ih (by omega) h
  unfold codeW at h ⊢
  by_cases h1 : 0 ≤ fnd LA1 p
  · rw [if_pos h1]
    obtain ⟨a, b, c⟩ := hl 161 (by omega) h1
    have a' : otherZ 161 (161 + fnd LA1 p) = p := a
    have b' : fnd LA1 p < 94 := b
    exact ⟨161, 161 + fnd LA1 p, by omega, by omega, by omega, by omega, a', by omega, c⟩
  rw [if_neg h1] at h ⊢
  by_cases h2 : 0 ≤ fnd LA2 p
  · rw [if_pos h2]
    obtain ⟨a, b, c⟩ := hl 162 (by omega) h2
    have a' : otherZ 162 (161 + fnd LA2 p) = p := a
    have b' : fnd LA2 p < 94 := b
    exact ⟨162, 161 + fnd LA2 p, by omega, by omega, by omega, by omega, a', by omega, c⟩
  rw [if_neg h2] at h ⊢
  by_cases h6 : 0 ≤ fnd LA6 p
  · rw [if_pos h6]
    obtain ⟨a, b, c⟩ := hl 166 (by omega) h6
    have a' : otherZ 166 (161 + fnd LA6 p) = p := a
    have b' : fnd LA6 p < 94 := b
    exact ⟨166, 161 + fnd LA6 p, by omega, by omega, by omega, by omega, a', by omega, c⟩
  rw [if_neg h6] at h ⊢
  exact hs 19 (by omega) h
/-- The document's code of a sign is the program's. -/
theorem rc_code {p c : Int} (h : RcIs p c) (hp : 0 < p) : (c < 0 ∧ codeW p < 0) ∨ (0 ≤ c ∧ codeW p = c) := by
  rcases h with ⟨l, b, h1, h2, h3, h4, h5, rfl⟩ | ⟨rfl, hno⟩
  · right
    rw [row_other l b ⟨h1, by omega⟩ ⟨h3, h4⟩] at h5
    have := other_facts l b h1 (by omega)
    rw [h5] at this
    exact ⟨by omega, this.2.2.2.1⟩
  · left
    refine ⟨by decide, ?_⟩
    by_cases h : 0 ≤ codeW p
    · obtain ⟨l, b, h1, h2, h3, h4, h5, _, _⟩ := codeW_hit h
      exact absurd (by rw [row_other l b ⟨h1, by omega⟩ ⟨h3, h4⟩]; exact h5) (hno l b h1 h2 h3 h4)
    · omega
theorem codeW_neg {p : Int} (hp : p ≤ 0) : codeW p < 0 := by
  by_cases h : 0 ≤ codeW p
  · obtain ⟨_, _, _, _, _, _, _, _, h0⟩ := codeW_hit h
    omega
  · omega
end Go.Proofs.YtpnjandlpbjddabDoor

/- The laws of chapter 07, walked: the example, WansungRanks, WansungPlaces, WansungSigns; conditions: the table of math/bits lies as laid; the cell of the library's MaxLen holds some int. -/
set_option maxRecDepth 100000
set_option maxHeartbeats 1000000
namespace Go.Proofs.YtpnjandlpbjddabDoor
open Go Go.RowKit

theorem Sign_at {lead b p : Int} (h : SignIs lead b p) (hl : 0 ≤ lead ∧ lead ≤ 255) (hb : 0 ≤ b ∧ b ≤ 255) (w : World) (hD : DB w) :
    Calls Tryd.prog 53 #[.int .u8 lead, .int .u8 b] w fun e w' => e = .returned (.tuple #[.int .i32 p, .bool (p != 0)]) ∧ Below w.heap.size w w' :=
  (Sign_any lead b hl hb w hD).mono fun e w' ⟨q, h1, h2, h3⟩ => by
    rw [sign_uniq h h2]; exact ⟨h1, h3⟩
theorem Place_at {k p : Int} (h : KthZ k true p) (hk : k ≤ 9223372036854775807) (w : World) (hD : DB w) :
    Calls Tryd.prog 103 #[.int .i64 k] w fun e w' => e = .returned (.tuple #[.int .i32 p, .bool (p != 0)]) ∧ Below w.heap.size w w' :=
  (Place_any k hk w hD).mono fun e w' ⟨q, h1, h2, h3⟩ => by
    rw [kthZ_uniq h h2]; exact ⟨h1, h3⟩
theorem Extra_at {k p : Int} (h : KthZ k false p) (hk : k ≤ 9223372036854775807) (w : World) (hD : DB w) :
    Calls Tryd.prog 83 #[.int .i64 k] w fun e w' => e = .returned (.tuple #[.int .i32 p, .bool (p != 0)]) ∧ Below w.heap.size w w' :=
  (Extra_any k hk w hD).mono fun e w' ⟨q, h1, h2, h3⟩ => by
    rw [kthZ_uniq h h2]; exact ⟨h1, h3⟩
theorem bytesP_at {c : Int} (h0 : 0 ≤ c) : bytesP c = ⟨#[(c / 256).toNat.toUInt8, (c % 256).toNat.toUInt8]⟩ := by
  unfold bytesP
  rw [if_neg (by omega)]

theorem isIn_1 : isIn 1 = true ∧ cnt true 1 = 1 := by decide +kernel
theorem isIn_last : isIn 11171 = false := by decide +kernel
theorem cnt_last : cnt false 11171 = 8821 := by
  have h : cnt false 11172 = cnt false 11171 + (if isIn 11171 = false then 1 else 0) := rfl
  rw [cnt_out, isIn_last] at h
  simp at h
  omega
theorem ex_sign : SignIs 176 162 44033 := by
  unfold SignIs
  rw [if_neg (by decide), if_neg (by decide), if_neg (by decide)]
  unfold RowIs
  rw [if_neg (by decide), if_pos (by decide)]
  exact .inr ⟨by decide, .inl ⟨1, by decide, isIn_1.1, isIn_1.2, rfl⟩⟩
theorem ex_code : codeP 55203 = 50770 := by
  have h := code_ex (n := 11171) (by decide) isIn_last
  rw [cnt_last] at h
  exact h.trans (by decide)
theorem SAwake_t (w : World) (hD : DB w) (hm : ML w) :
    Calls Tryd.prog 32 #[] w fun e w' => e = .returned (.bool true) ∧ Below w.heap.size w w' := by
  have hs := fun w => Sign_at ex_sign (by omega) (by omega) w
  have hb := fun w => Bytes_any 55203 (by omega) w
  unfold BPost at hb
  rw [ex_code] at hb
  have e1 : bytesP 50770 = ⟨#[198, 82]⟩ := by decide
  have e2 : decide ((0 : Int) ≤ 50770) = true := by decide
  have e3 : ((44033 : Int) != 0) = true := by decide
  rw [e1, e2] at hb
  rw [e3] at hs
  clear e1 e2 e3
  go_enter Tryd.func32, Tryd.ntmps32
  go_wp2_with (first | (go_at_call 53; refine (hs _ hD).mono ?_; rintro e w1 ⟨rfl, hb1⟩) | (go_at_call 54; refine (hb _ (ML_below hm hb1 (Nat.le_refl _))).mono ?_; rintro e w2 ⟨rfl, hb2⟩))
  go_ret
  exact ⟨rfl, hb1.trans (hb2.mono hb1.size)⟩
theorem sawake (w : World) (hD : DB w) (hm : ML w) :
    Calls Tryd.prog 14 #[] w fun e w' => e = .returned (.bool true) ∧ Below w.heap.size w w' := by
  go_enter Tryd.func14, Tryd.ntmps14
  go_wp2_with (go_at_call 32; refine (SAwake_t _ hD hm).mono ?_; rintro e w1 ⟨rfl, hb1⟩)
  go_ret
  exact ⟨rfl, hb1⟩
theorem sawake_b {w : World} (hD : DB w) (hm : ML w) {w' : World} (hb : Below w.heap.size w w') :
    Calls Tryd.prog 14 #[] w' fun e w'' => e = .returned (.bool true) ∧ Below w.heap.size w w'' :=
  (sawake w' (DB_below hD hb (Nat.le_refl _)) (ML_below hm hb (Nat.le_refl _))).mono fun _ _ h => ⟨h.1, hb.trans (h.2.mono hb.size)⟩
end Go.Proofs.YtpnjandlpbjddabDoor

/- What the card of WansungRows takes beside the shared part: the table of math/bits as the row lists it; no condition. -/
set_option maxRecDepth 100000
namespace Go.Proofs.YtpnjandlpbjddabDoor
open Go Go.Proofs Go.ChangeShapes Go.WideShapes Go.ChangeAt Go.RowKit

def dbZ : List Int := Lib.deBruijn32tab.map fun n : Nat => (n : Int)
theorem db_eq : (Rows.laid_math_bits_deBruijn32tab : DataW Unit) = Lib.tabData .u8 dbZ := by kernel_rfl
theorem db_of {l : List (String × DataW Unit)} {W : World} (h : laidMetH Tryd.prog l W) (hp : (l.all fun x => x.2.handleName?.isNone) = true)
    (h1 : ("math/bits.deBruijn32tab", Rows.laid_math_bits_deBruijn32tab) ∈ l) : DB W := by
  rw [MakeChecks.laidMetH_plain _ _ _ hp] at h
  rw [db_eq] at h1
  obtain ⟨g, t, cs, fuel, p, hg, hty, hvar, hd⟩ := Lib.laidMet.reads h h1
  obtain rfl := Option.some.inj ((show Tryd.prog.globalNamed "math/bits.deBruijn32tab" = some 3 by kernel_rfl).symm.trans hg)
  obtain rfl := Option.some.inj ((show (Tryd.prog.globals[3]?).map (·.type) = some 156 by kernel_rfl).symm.trans hty)
  have hcs := Lib.cells_of_tab Tryd.underlying156 Tryd.underlying5 (by kernel_rfl) (by kernel_rfl) hd
  intro j hj
  rw [World.var?_cell hg hvar j, ← Array.getElem?_toList, hcs]
  simp [dbZ, List.getD, hj]
end Go.Proofs.YtpnjandlpbjddabDoor

/- Chapter 4 in plain lists: rows of codes, their pairs, sorted lists of pairs. No program in sight. -/
set_option maxRecDepth 100000
set_option maxHeartbeats 1000000
namespace Go.Proofs.YtpnjandlpbjddabDoor
open Go

/-- A code, its sign. -/
abbrev Pr := Nat × Int
/-- A row: the first code, how many, the first sign, or the signs. -/
abbrev Rw := Nat × Nat × Int × Option (List Int)
def sgAt (r : Rw) (i : Nat) : Int := match r.2.2.2 with
  | none => r.2.2.1 + i
  | some l => l.getD i 0
def prs (r : Rw) : List Pr := (List.range r.2.1).map fun i => (r.1 + i, sgAt r i)
def RwOk (r : Rw) : Prop := 1 ≤ r.2.1 ∧ r.1 + r.2.1 ≤ 1048576 ∧ match r.2.2.2 with
  | none => 0 ≤ r.2.2.1 ∧ r.2.2.1 + r.2.1 ≤ 1114112
  | some l => r.2.2.1 = 0 ∧ l.length = r.2.1 ∧ ∀ p ∈ l, 0 ≤ p ∧ p ≤ 1114111
def Srt (l : List Pr) : Prop := l.Pairwise fun a b => a.1 < b.1
theorem mem_prs {r : Rw} {x : Pr} : x ∈ prs r ↔ r.1 ≤ x.1 ∧ x.1 < r.1 + r.2.1 ∧ x.2 = sgAt r (x.1 - r.1) := by
  unfold prs
  rw [List.mem_map]
  constructor
  · rintro ⟨i, hi, rfl⟩
    rw [List.mem_range] at hi
    refine ⟨by simp, by simp; omega, by simp⟩
  · rintro ⟨h1, h2, h3⟩
    refine ⟨x.1 - r.1, List.mem_range.2 (by omega), ?_⟩
    rw [← h3, show r.1 + (x.1 - r.1) = x.1 by omega]
theorem prs_len (r : Rw) : (prs r).length = r.2.1 := by simp [prs]
theorem prs_srt (r : Rw) : Srt (prs r) := by
  unfold Srt prs
  rw [List.pairwise_map]
  exact List.pairwise_lt_range.imp fun h => by simp; omega
theorem srt_ext : ∀ (l m : List Pr), Srt l → Srt m → (∀ x, x ∈ l ↔ x ∈ m) → l = m
  | [], [], _, _, _ => rfl
  | [], b :: m, _, _, h => by have := (h b).2 (by simp); simp at this
  | a :: l, [], _, _, h => by have := (h a).1 (by simp); simp at this
  | a :: l, b :: m, hl, hm, h => by
    have hl' := List.pairwise_cons.1 hl
    have hm' := List.pairwise_cons.1 hm
    have hab : a = b := by
      rcases List.mem_cons.1 ((h a).1 (by simp)) with e | e
      · exact e
      · rcases List.mem_cons.1 ((h b).2 (by simp)) with e2 | e2
        · exact e2.symm
        · have := hm'.1 a e; have := hl'.1 b e2; omega
    subst hab
    rw [srt_ext l m hl'.2 hm'.2 fun x => ?_]
    constructor
    · intro hx
      rcases List.mem_cons.1 ((h x).1 (by simp [hx])) with e | e
      · subst e; have := hl'.1 x hx; omega
      · exact e
    · intro hx
      rcases List.mem_cons.1 ((h x).2 (by simp [hx])) with e | e
      · subst e; have := hm'.1 x hx; omega
      · exact e
/-- Rows by rising codes, none of which has a code of another one. -/
def RowsOk (rs : List Rw) : Prop := rs.Pairwise (fun a b => a.1 + a.2.1 ≤ b.1) ∧ ∀ r ∈ rs, RwOk r
theorem rows_srt : ∀ (rs : List Rw), rs.Pairwise (fun a b => a.1 + a.2.1 ≤ b.1) → Srt (rs.flatMap prs)
  | [], _ => by simp [Srt]
  | r :: rs, h => by
    have h' := List.pairwise_cons.1 h
    rw [List.flatMap_cons]
    unfold Srt
    rw [List.pairwise_append]
    refine ⟨prs_srt r, rows_srt rs h'.2, fun a ha b hb => ?_⟩
    obtain ⟨q, hq, hbq⟩ := List.mem_flatMap.1 hb
    have h1 := h'.1 q hq
    have h2 := (mem_prs.1 ha).2.1
    have h3 := (mem_prs.1 hbq).1
    omega
def putL : List Pr → Pr → List Pr
  | [], p => [p]
  | x :: l, p => if p.1 < x.1 then p :: x :: l else x :: putL l p
theorem mem_putL {p y : Pr} : ∀ {l : List Pr}, y ∈ putL l p ↔ y = p ∨ y ∈ l
  | [] => by simp [putL]
  | x :: l => by
    unfold putL
    split
    · simp
    · rw [List.mem_cons, mem_putL (l := l), List.mem_cons]
      constructor
      · rintro (h | h | h) <;> simp [h]
      · rintro (h | h | h) <;> simp [h]
theorem srt_putL {p : Pr} : ∀ {l : List Pr}, Srt l → (∀ x ∈ l, x.1 ≠ p.1) → Srt (putL l p)
  | [], _, _ => by simp [putL, Srt]
  | x :: l, h, hn => by
    have h' := List.pairwise_cons.1 h
    unfold putL
    split
    · rename_i hlt
      refine List.pairwise_cons.2 ⟨fun y hy => ?_, h⟩
      rcases List.mem_cons.1 hy with rfl | hy
      · exact hlt
      · have := h'.1 y hy; omega
    · rename_i hlt
      refine List.pairwise_cons.2 ⟨fun y hy => ?_, srt_putL h'.2 fun z hz => hn z (by simp [hz])⟩
      rcases mem_putL.1 hy with rfl | hy
      · have := hn x (by simp); omega
      · exact h'.1 y hy
def hasC (l : List Pr) (c : Nat) : Bool := l.any fun x => x.1 == c
theorem hasC_iff {l : List Pr} {c : Nat} : hasC l c = true ↔ ∃ x ∈ l, x.1 = c := by simp [hasC, List.any_eq_true]
def joinL (l more : List Pr) : Option (List Pr) := if more.any (fun m => hasC l m.1) = true then none else some (more.foldl putL l)
def overL (l other : List Pr) : List Pr := other.foldl (fun out p => if hasC l p.1 = true then out else putL out p) l
theorem fold_put : ∀ (more l : List Pr), Srt l → Srt more → (∀ m ∈ more, ∀ x ∈ l, x.1 ≠ m.1) → Srt (more.foldl putL l) ∧ ∀ y, y ∈ more.foldl putL l ↔ y ∈ l ∨ y ∈ more
  | [], l, hl, _, _ => by simpa using hl
  | m :: more, l, hl, hm, hd => by
    have hm' := List.pairwise_cons.1 hm
    obtain ⟨a, b⟩ := fold_put more (putL l m) (srt_putL hl (hd m (by simp))) hm'.2 fun q hq x hx => by
      rcases mem_putL.1 hx with rfl | hx
      · have := hm'.1 q hq; omega
      · exact hd q (by simp [hq]) x hx
    rw [List.foldl_cons]
    refine ⟨a, fun y => ?_⟩
    rw [b, mem_putL, List.mem_cons]
    constructor
    · rintro ((h | h) | h) <;> simp [h]
    · rintro (h | h | h) <;> simp [h]
theorem fold_over (l : List Pr) : ∀ (more out : List Pr), Srt out → Srt more → (∀ m ∈ more, hasC l m.1 = false → ∀ x ∈ out, x.1 ≠ m.1) →
    Srt (more.foldl (fun out p => if hasC l p.1 = true then out else putL out p) out) ∧ ∀ y, y ∈ more.foldl (fun out p => if hasC l p.1 = true then out else putL out p) out ↔ y ∈ out ∨ (y ∈ more ∧ hasC l y.1 = false)
  | [], out, ho, _, _ => by simpa using ho
  | m :: more, out, ho, hm, hd => by
    have hm' := List.pairwise_cons.1 hm
    rw [List.foldl_cons]
    cases hc : hasC l m.1 with
    | true =>
      simp only [if_true]
      obtain ⟨a, b⟩ := fold_over l more out ho hm'.2 fun q hq => hd q (by simp [hq])
      refine ⟨a, fun y => ?_⟩
      rw [b, List.mem_cons]
      constructor
      · rintro (h | ⟨h, h2⟩)
        · exact .inl h
        · exact .inr ⟨.inr h, h2⟩
      · rintro (h | ⟨h | h, h2⟩)
        · exact .inl h
        · subst h; rw [hc] at h2; cases h2
        · exact .inr ⟨h, h2⟩
    | false =>
      simp only [Bool.false_eq_true, if_false]
      obtain ⟨a, b⟩ := fold_over l more (putL out m) (srt_putL ho (hd m (by simp) hc)) hm'.2 fun q hq hq2 x hx => by
        rcases mem_putL.1 hx with rfl | hx
        · have := hm'.1 q hq; omega
        · exact hd q (by simp [hq]) hq2 x hx
      refine ⟨a, fun y => ?_⟩
      rw [b, mem_putL, List.mem_cons]
      constructor
      · rintro ((h | h) | ⟨h, h2⟩)
        · subst h; exact .inr ⟨.inl rfl, hc⟩
        · exact .inl h
        · exact .inr ⟨.inr h, h2⟩
      · rintro (h | ⟨h | h, h2⟩)
        · exact .inl (.inr h)
        · exact .inl (.inl h)
        · exact .inr ⟨h, h2⟩
theorem overL_spec (l m : List Pr) (hl : Srt l) (hm : Srt m) : Srt (overL l m) ∧ ∀ y, y ∈ overL l m ↔ y ∈ l ∨ (y ∈ m ∧ hasC l y.1 = false) :=
  fold_over l m l hl hm fun q hq h x hx e => by
    have := hasC_iff.2 ⟨x, hx, e⟩
    rw [h] at this; cases this
theorem over_eq {l m r : List Pr} (hl : Srt l) (hm : Srt m) (hr : Srt r) (h : ∀ y, y ∈ r ↔ y ∈ l ∨ (y ∈ m ∧ hasC l y.1 = false)) : r = overL l m := by
  obtain ⟨a, b⟩ := overL_spec l m hl hm
  exact srt_ext _ _ hr a fun x => by rw [h, b]
theorem hasC_over (l m : List Pr) (hl : Srt l) (hm : Srt m) (c : Nat) : hasC (overL l m) c = (hasC l c || hasC m c) := by
  obtain ⟨_, b⟩ := overL_spec l m hl hm
  rw [Bool.eq_iff_iff, Bool.or_eq_true, hasC_iff, hasC_iff, hasC_iff]
  constructor
  · rintro ⟨x, hx, rfl⟩
    rcases (b x).1 hx with h | ⟨h, _⟩
    · exact .inl ⟨x, h, rfl⟩
    · exact .inr ⟨x, h, rfl⟩
  · rintro (⟨x, hx, rfl⟩ | ⟨x, hx, rfl⟩)
    · exact ⟨x, (b x).2 (.inl hx), rfl⟩
    · cases hc : hasC l x.1 with
      | true => obtain ⟨y, hy, e⟩ := hasC_iff.1 hc; exact ⟨y, (b y).2 (.inl hy), e⟩
      | false => exact ⟨x, (b x).2 (.inr ⟨hx, hc⟩), rfl⟩
theorem over_assoc (l m n : List Pr) (hl : Srt l) (hm : Srt m) (hn : Srt n) : overL (overL l m) n = overL l (overL m n) := by
  obtain ⟨a1, b1⟩ := overL_spec l m hl hm
  obtain ⟨a2, b2⟩ := overL_spec m n hm hn
  obtain ⟨a3, b3⟩ := overL_spec (overL l m) n a1 hn
  refine over_eq hl a2 a3 fun y => ?_
  rw [b3, b1, b2, hasC_over l m hl hm, Bool.or_eq_false_iff]
  constructor
  · rintro ((h | ⟨h, h2⟩) | ⟨h, h2, h3⟩)
    · exact .inl h
    · exact .inr ⟨.inl h, h2⟩
    · exact .inr ⟨.inr ⟨h, h3⟩, h2⟩
  · rintro (h | ⟨h | ⟨h, h3⟩, h2⟩)
    · exact .inl (.inl h)
    · exact .inl (.inr ⟨h, h2⟩)
    · exact .inr ⟨h, h2, h3⟩
end Go.Proofs.YtpnjandlpbjddabDoor

/- Pieces as rows; a table of pieces (newF) and the document's (madeF) are the same pairs, or fail at the same piece. No program in sight. -/
set_option maxRecDepth 100000
set_option maxHeartbeats 1000000
namespace Go.Proofs.YtpnjandlpbjddabDoor
open Go

/-- From, To, Count, Text, and the text's signs. -/
abbrev Pce := Int × Int × Int × ByteArray × Option (List Int)
def PceOk (p : Pce) : Prop := (match p.2.2.2.2 with
  | some ps => Good p.2.2.2.1 ps
  | none => ∃ n, BadAt p.2.2.2.1 n) ∧ (-9223372036854775808 ≤ p.1 ∧ p.1 < 9223372036854775808) ∧ (-2147483648 ≤ p.2.1 ∧ p.2.1 < 2147483648) ∧ (-9223372036854775808 ≤ p.2.2.1 ∧ p.2.2.1 < 9223372036854775808)
def rowOf (p : Pce) : Option Rw :=
  if p.2.2.2.1.size ≠ 0 then
    match p.2.2.2.2 with
    | some ps => if 0 ≤ p.1 ∧ p.1 + ps.length ≤ 1048576 then some (p.1.toNat, ps.length, 0, some ps) else none
    | none => none
  else if 0 ≤ p.1 ∧ 1 ≤ p.2.2.1 ∧ p.1 + p.2.2.1 ≤ 1048576 ∧ scalarB p.2.1 = true ∧ scalarB (p.2.1 + p.2.2.1 - 1) = true ∧ (p.2.1 < 55296 ↔ p.2.1 + p.2.2.1 - 1 < 55296) then some (p.1.toNat, p.2.2.1.toNat, p.2.1, none)
  else none
theorem scalar_rng {p : Int} (h : scalarB p = true) : 0 ≤ p ∧ p ≤ 1114111 := by
  unfold scalarB at h
  simp only [decide_eq_true_eq] at h
  omega
theorem good_pos {s : ByteArray} {ps : List Int} (h : Good s ps) (hs : s.size ≠ 0) : 1 ≤ ps.length := by
  cases ps with
  | nil => exact absurd h.size hs
  | cons _ _ => simp
theorem rowOf_ok {p : Pce} {r : Rw} (hp : PceOk p) (h : rowOf p = some r) : RwOk r := by
  unfold rowOf at h
  split at h
  · rename_i hs
    obtain ⟨hg, _⟩ := hp
    generalize p.2.2.2.2 = q at *
    cases q with
    | none => cases h
    | some ps =>
      simp only at h hg
      split at h
      · injection h with h
        subst h
        have h1 := good_pos hg hs
        refine ⟨h1, by simp; omega, rfl, rfl, fun x hx => scalar_rng (hg.2 x hx)⟩
      · cases h
  · split at h
    · rename_i hc
      injection h with h
      subst h
      have h1 := scalar_rng hc.2.2.2.1
      have h2 := scalar_rng hc.2.2.2.2.1
      refine ⟨by simp; omega, by simp; omega, by simp; omega, by simp; omega⟩
    · cases h
def ovl (acc : List Rw) (r : Rw) : Bool := acc.any fun q => decide (q.1 < r.1 + r.2.1) && decide (r.1 < q.1 + q.2.1)
def newF : List Rw → List Pce → Nat → List Rw ⊕ Nat
  | acc, [], _ => .inl acc
  | acc, p :: l, i => match rowOf p with
    | none => .inr i
    | some r => if ovl acc r = true then .inr i else newF (acc ++ [r]) l (i + 1)
def madeF : List Pr → List Pce → Nat → List Pr ⊕ Nat
  | acc, [], _ => .inl acc
  | acc, p :: l, i => match rowOf p with
    | none => .inr i
    | some r => match joinL acc (prs r) with
      | none => .inr i
      | some a => madeF a l (i + 1)
def Apart (a b : Rw) : Prop := a.1 + a.2.1 ≤ b.1 ∨ b.1 + b.2.1 ≤ a.1
/-- Rows, one beside the other, and their pairs by rising codes. -/
def Told (rs : List Rw) (L : List Pr) : Prop := rs.Pairwise Apart ∧ (∀ r ∈ rs, RwOk r) ∧ Srt L ∧ ∀ x, x ∈ L ↔ ∃ r ∈ rs, x ∈ prs r
theorem ovl_iff {rs : List Rw} {L : List Pr} {r : Rw} (h : Told rs L) (hr : RwOk r) : ovl rs r = (prs r).any fun m => hasC L m.1 := by
  obtain ⟨_, hok, _, hm⟩ := h
  have h1 := hr.1
  rw [Bool.eq_iff_iff, ovl, List.any_eq_true, List.any_eq_true]
  constructor
  · rintro ⟨q, hq, hc⟩
    simp only [Bool.and_eq_true, decide_eq_true_eq] at hc
    have h2 := (hok q hq).1
    have hx : max q.1 r.1 < r.1 + r.2.1 ∧ max q.1 r.1 < q.1 + q.2.1 := by omega
    refine ⟨(max q.1 r.1, sgAt r (max q.1 r.1 - r.1)), mem_prs.2 ⟨by simp; omega, by simp; omega, rfl⟩, hasC_iff.2 ⟨(max q.1 r.1, sgAt q (max q.1 r.1 - q.1)), (hm _).2 ⟨q, hq, mem_prs.2 ⟨by simp; omega, by simp; omega, rfl⟩⟩, rfl⟩⟩
  · rintro ⟨x, hx, hc⟩
    obtain ⟨y, hy, e⟩ := hasC_iff.1 hc
    obtain ⟨q, hq, hyq⟩ := (hm y).1 hy
    have a := mem_prs.1 hx
    have b := mem_prs.1 hyq
    refine ⟨q, hq, ?_⟩
    simp only [Bool.and_eq_true, decide_eq_true_eq]
    omega
theorem told_step {rs : List Rw} {L : List Pr} {r : Rw} (h : Told rs L) (hr : RwOk r) (hn : ovl rs r = false) : Told (rs ++ [r]) ((prs r).foldl putL L) := by
  have ho := ovl_iff h hr
  obtain ⟨hp, hok, hs, hm⟩ := h
  have hd : ∀ m ∈ prs r, ∀ x ∈ L, x.1 ≠ m.1 := fun m hm' x hx e => by
    rw [hn] at ho
    have := List.any_eq_false.1 ho.symm m hm'
    exact this (hasC_iff.2 ⟨x, hx, e⟩)
  obtain ⟨a, b⟩ := fold_put (prs r) L hs (prs_srt r) hd
  refine ⟨?_, ?_, a, fun x => ?_⟩
  · rw [List.pairwise_append]
    refine ⟨hp, by simp, fun q hq s hs' => ?_⟩
    simp only [List.mem_singleton] at hs'
    subst hs'
    have := List.any_eq_false.1 hn q hq
    simp only [Bool.and_eq_true, decide_eq_true_eq, not_and] at this
    unfold Apart
    omega
  · intro q hq
    rcases List.mem_append.1 hq with h | h
    · exact hok q h
    · simp only [List.mem_singleton] at h; subst h; exact hr
  · rw [b, hm]
    constructor
    · rintro (⟨q, hq, h⟩ | h)
      · exact ⟨q, by simp [hq], h⟩
      · exact ⟨r, by simp, h⟩
    · rintro ⟨q, hq, h⟩
      rcases List.mem_append.1 hq with h2 | h2
      · exact .inl ⟨q, h2, h⟩
      · simp only [List.mem_singleton] at h2; subst h2; exact .inr h
/-- Both fold the same. -/
theorem new_made : ∀ (l : List Pce) (rs : List Rw) (L : List Pr) (i : Nat), (∀ p ∈ l, PceOk p) → Told rs L → (∃ rs' M, newF rs l i = .inl rs' ∧ madeF L l i = .inl M ∧ Told rs' M) ∨ ∃ k, newF rs l i = .inr k ∧ madeF L l i = .inr k
  | [], rs, L, i, _, h => .inl ⟨rs, L, rfl, rfl, h⟩
  | p :: l, rs, L, i, hp, h => by
    simp only [newF, madeF]
    cases hr : rowOf p with
    | none => exact .inr ⟨i, rfl, rfl⟩
    | some r =>
      have hok := rowOf_ok (hp p (by simp)) hr
      have ho := ovl_iff h hok
      simp only [joinL]
      rw [← ho]
      cases hv : ovl rs r with
      | true => exact .inr ⟨i, rfl, rfl⟩
      | false =>
        simp only [Bool.false_eq_true, if_false]
        exact new_made l (rs ++ [r]) _ (i + 1) (fun q hq => hp q (by simp [hq])) (told_step h hok hv)
theorem told_nil : Told [] [] := ⟨by simp, by simp, by simp [Srt], by simp⟩
/-- The rows by rising codes: just these pairs. -/
theorem told_sorted {rs rs' : List Rw} {L : List Pr} (h : Told rs L) (hp : rs'.Perm rs) (hs : rs'.Pairwise fun a b => a.1 ≤ b.1) : RowsOk rs' ∧ rs'.flatMap prs = L := by
  obtain ⟨ha, hok, hL, hm⟩ := h
  have hok' : ∀ r ∈ rs', RwOk r := fun r hr => hok r (hp.mem_iff.1 hr)
  have ha' : rs'.Pairwise Apart := by
    refine (hp.pairwise_iff ?_).2 ha
    intro a b h
    unfold Apart at *
    omega
  have hb : rs'.Pairwise fun a b => a.1 + a.2.1 ≤ b.1 := by
    have hboth := hs.and ha'
    refine hboth.imp_of_mem ?_
    intro a b hma hmb h
    obtain ⟨h1, h2⟩ := h
    have := (hok' b hmb).1
    unfold Apart at h2
    omega
  refine ⟨⟨hb, hok'⟩, srt_ext _ _ (rows_srt rs' hb) hL fun x => ?_⟩
  rw [hm, List.mem_flatMap]
  constructor
  · rintro ⟨r, hr, h⟩; exact ⟨r, hp.mem_iff.1 hr, h⟩
  · rintro ⟨r, hr, h⟩; exact ⟨r, hp.mem_iff.2 hr, h⟩
end Go.Proofs.YtpnjandlpbjddabDoor

/- Chapter 7: the rows' signs as a table's pieces, their pairs, and the document's order: plain lists. No program in sight. -/
set_option maxRecDepth 100000
set_option maxHeartbeats 4000000
namespace Go.Proofs.YtpnjandlpbjddabDoor
open Go

def sqP (a b n : Int) : Pce := (a, b, n, ⟨#[]⟩, some [])
/-- The pieces of one listed row. -/
def lsP (l : Int) (k : Nat) : List Int → List Pce
  | [] => []
  | p :: r => sqP (l * 256 + 161 + k) p 1 :: lsP l (k + 1) r
def leads6 : List Int := [161, 162, 163, 164, 165, 166]
def wP1 (n : Nat) : List Pce := (leads6.take n).flatMap fun l => lsP l 0 (listW l)
def wP : List Pce := wP1 6 ++ SPN.map fun s => sqP s.1 s.2.1 s.2.2
/-- All places of the rows, by rising codes. -/
def cellsW : List (Nat × Nat) := (List.range 12).flatMap fun i => (List.range 94).map fun j => (161 + i, 161 + j)
def rowsW : List Pr := cellsW.filterMap fun c => if rowZ c.1 c.2 = 0 then none else some (c.1 * 256 + c.2, rowZ c.1 c.2)
def madeE (l : List Pce) (L : List Pr) : Bool := match madeF [] l 0 with
  | .inl M => M == L
  | .inr _ => false
theorem madeE_eq {l : List Pce} {L : List Pr} (h : madeE l L = true) : madeF [] l 0 = .inl L := by
  unfold madeE at h
  generalize madeF [] l 0 = r at *
  cases r with
  | inl M => simp only [beq_iff_eq] at h; rw [h]
  | inr _ => cases h
theorem w_made : madeF [] wP 0 = .inl rowsW := madeE_eq (by decide +kernel)
theorem rows_len : rowsW.length = 724 := by decide +kernel
theorem wP_len : wP.length = 252 := by decide +kernel
theorem cells_all : ((List.range 12).all fun i => (List.range 94).all fun j => cellsW[94 * i + j]? == some (161 + i, 161 + j)) = true := by decide +kernel
theorem cells_at {i j : Nat} (hi : i < 12) (hj : j < 94) : cellsW.drop (94 * i + j) = (161 + i, 161 + j) :: cellsW.drop (94 * i + j + 1) := by
  have h := List.all_eq_true.1 (List.all_eq_true.1 cells_all i (List.mem_range.2 hi)) j (List.mem_range.2 hj)
  have h2 : cellsW[94 * i + j]? = some (161 + i, 161 + j) := by simpa using h
  obtain ⟨h3, h4⟩ := List.getElem?_eq_some_iff.1 h2
  rw [List.drop_eq_getElem_cons h3, h4]
theorem cells_len : cellsW.length = 1128 := by decide +kernel
/-- The rest of the rows is what the places behind tell, and no sign comes twice. -/
def wk : List (Nat × Nat) → List Pr → List Nat → Bool
  | [], rest, _ => rest.isEmpty
  | c :: cs, rest, seen => if eqI (rowZ c.1 c.2) 0 = true then wk cs rest seen else match rest with
    | [] => false
    | x :: r => Nat.beq x.1 (c.1 * 256 + c.2) && eqI x.2 (rowZ c.1 c.2) && !(seen.any fun y => Nat.beq y x.2.toNat) && wk cs r (x.2.toNat :: seen)
theorem wk_all : wk cellsW rowsW [] = true := by decide +kernel
theorem wk_skip {c : Nat × Nat} {cs : List (Nat × Nat)} {rest : List Pr} {seen : List Nat} (h : wk (c :: cs) rest seen = true) (h0 : rowZ c.1 c.2 = 0) : wk cs rest seen = true := by
  unfold wk at h
  rw [h0] at h
  exact h
theorem wk_take {c : Nat × Nat} {cs : List (Nat × Nat)} {rest : List Pr} {seen : List Nat} (h : wk (c :: cs) rest seen = true) (h0 : rowZ c.1 c.2 ≠ 0) :
    ∃ r, rest = (c.1 * 256 + c.2, rowZ c.1 c.2) :: r ∧ (∀ y ∈ seen, y ≠ (rowZ c.1 c.2).toNat) ∧ wk cs r ((rowZ c.1 c.2).toNat :: seen) = true := by
  unfold wk at h
  rw [if_neg (fun e => h0 (eqI_eq e))] at h
  cases rest with
  | nil => cases h
  | cons x r =>
    simp only [Bool.and_eq_true, Bool.not_eq_true', List.any_eq_false] at h
    obtain ⟨⟨⟨h1, h2⟩, h3⟩, h4⟩ := h
    have e1 := Nat.eq_of_beq_eq_true h1
    have e2 := eqI_eq h2
    obtain ⟨a, b⟩ := x
    simp only at e1 e2
    subst e1
    subst e2
    exact ⟨r, rfl, fun y hy e => h3 y hy (by rw [e]; exact Nat.beq_refl _), h4⟩
/-- Sorted by rising codes: the rows themselves. -/
theorem srt_of_made {l : List Pce} {L : List Pr} (hok : ∀ p ∈ l, PceOk p) (h : madeF [] l 0 = .inl L) : Srt L := by
  rcases new_made l [] [] 0 hok told_nil with ⟨rs', M, _, h2, h3⟩ | ⟨k, _, h2⟩
  · rw [h] at h2; injection h2 with h2; subst h2; exact h3.2.2.1
  · rw [h] at h2; cases h2
theorem perm_srt {L L' : List Pr} (hs : Srt L) (hp : L'.Perm L) (h : L'.Pairwise fun a b => a.1 ≤ b.1) : L' = L := by
  have hn : (L.map (·.1)).Nodup := by
    unfold List.Nodup
    rw [List.pairwise_map]
    exact hs.imp fun h => by omega
  have hn' : (L'.map (·.1)).Nodup := (hp.map _).nodup_iff.2 hn
  have hs' : Srt L' := by
    unfold List.Nodup at hn'
    rw [List.pairwise_map] at hn'
    exact (h.and hn').imp fun ⟨h1, h2⟩ => by omega
  exact srt_ext L' L hs' hs fun x => hp.mem_iff
def okW (p : Pce) : Bool := decide (0 ≤ p.1 ∧ p.1 < 100000 ∧ 0 ≤ p.2.1 ∧ p.2.1 < 100000 ∧ 0 ≤ p.2.2.1 ∧ p.2.2.1 < 1000)
theorem okW_all : wP.all okW = true := by decide +kernel
theorem lsP_form {l : Int} : ∀ (ps : List Int) (k : Nat), ∀ p ∈ lsP l k ps, ∃ a b n, p = sqP a b n
  | [], _, p, h => by cases h
  | q :: ps, k, p, h => by
    unfold lsP at h
    rcases List.mem_cons.1 h with rfl | h
    · exact ⟨_, _, _, rfl⟩
    · exact lsP_form ps _ p h
theorem wP_form : ∀ p ∈ wP, ∃ a b n, p = sqP a b n := fun p hp => by
  unfold wP wP1 at hp
  rcases List.mem_append.1 hp with h | h
  · obtain ⟨l, _, h⟩ := List.mem_flatMap.1 h
    exact lsP_form _ _ p h
  · obtain ⟨s, _, rfl⟩ := List.mem_map.1 h
    exact ⟨_, _, _, rfl⟩
theorem wP_ok : ∀ p ∈ wP, PceOk p ∧ p.2.2.2.1.size ≤ 1000000 := fun p hp => by
  have h1 := List.all_eq_true.1 okW_all p hp
  obtain ⟨a, b, n, rfl⟩ := wP_form p hp
  unfold okW at h1
  have h1 := of_decide_eq_true h1
  simp only [sqP] at h1
  refine ⟨⟨⟨rfl, by simp⟩, ?_, ?_, ?_⟩, (show (ByteArray.mk #[]).size ≤ 1000000 by decide)⟩
  · simp [sqP]; omega
  · simp [sqP]; omega
  · simp [sqP]; omega
theorem rowsW_srt : Srt rowsW := srt_of_made (fun p hp => (wP_ok p hp).1) w_made
theorem wP1_succ {n : Nat} {l : Int} (h : leads6[n]? = some l) : wP1 (n + 1) = wP1 n ++ lsP l 0 (listW l) := by
  unfold wP1
  rw [List.take_add_one, h]
  simp
theorem lsP_take (l : Int) : ∀ (ps : List Int) (k j : Nat) (p : Int), ps[j]? = some p → (lsP l k ps).take (j + 1) = (lsP l k ps).take j ++ [sqP (l * 256 + 161 + (k + j : Nat)) p 1]
  | [], _, _, _, h => by simp at h
  | q :: ps, k, 0, p, h => by simp at h; subst h; simp [lsP]
  | q :: ps, k, j + 1, p, h => by
    have := lsP_take l ps (k + 1) j p (by simpa using h)
    unfold lsP
    rw [List.take_succ_cons, this, show k + 1 + j = k + (j + 1) by omega]
    simp
theorem lsP_len (l : Int) : ∀ (ps : List Int) (k : Nat), (lsP l k ps).length = ps.length
  | [], _ => rfl
  | q :: ps, k => by unfold lsP; simp [lsP_len l ps (k + 1)]
end Go.Proofs.YtpnjandlpbjddabDoor

/- Contracts of a row's methods (end, sign, part), of inside, Seq, List; conditions: the row's codes are below 2^20. -/
set_option maxRecDepth 100000
set_option maxHeartbeats 1000000
namespace Go.Proofs.YtpnjandlpbjddabDoor
open Go Go.RowKit

/-- A slice: its address, length, capacity. -/
abbrev Sl := Option Addr × Nat × Nat
def slV (q : Sl) : Value := .slice q.1 q.2.1 q.2.2
/-- A row's four cells; the last one is where its signs lie. -/
def rV (x : Rw × Sl) : List Value := [.int .i64 (x.1.1 : Int), .int .i64 (x.1.2.1 : Int), .int .i32 x.1.2.2.1, slV x.2]
theorem rV_len (x : Rw × Sl) : (rV x).length = 4 := rfl
/-- A row's signs lie below a block, as listed, in numbers of their own. -/
def SgOk (w : World) (B : Nat) (x : Rw × Sl) : Prop := match x.1.2.2.2 with
  | none => x.2 = (none, 0, 0)
  | some l => ∃ ad c cs fr, x.2 = (some ad, l.length, c) ∧ l.length ≤ c ∧ ad.block < B ∧ ad.spot = none ∧ w.heap[ad.block]? = some (.cells cs 21 fr) ∧ ∀ j, j < l.length → cs[ad.off + j]? = some (.int .i32 (l.getD j 0))
theorem addr_eq {ad : Addr} (h : ad.spot = none) (j : Nat) : ad.add j = ⟨ad.block, ad.off + j, none⟩ := by
  unfold Addr.add
  split
  · rename_i e; subst e; cases ad; simp at h; subst h; rfl
  · rfl
theorem sg_cell {w : World} {ad : Addr} {cs : Array Value} {T : TypeId} {fr : Nat × Nat} (hsp : ad.spot = none) (hh : w.heap[ad.block]? = some (.cells cs T fr)) (j : Nat) : w.cell? (ad.add j) = cs[ad.off + j]? := by
  rw [addr_eq hsp, cell_of_row _ ad.block _ _ _ _ hh]
theorem SgOk.keep {w w' : World} {B : Nat} {x : Rw × Sl} (h : SgOk w B x) (hk : ∀ k, k < B → (∃ cs fr, w.heap[k]? = some (.cells cs 21 fr)) → w'.heap[k]? = w.heap[k]?) : SgOk w' B x := by
  unfold SgOk at *
  generalize x.1.2.2.2 = q at *
  cases q with
  | none => exact h
  | some l =>
    obtain ⟨ad, c, cs, fr, h1, h2, h3, h5, h6, h4⟩ := h
    exact ⟨ad, c, cs, fr, h1, h2, h3, h5, (hk _ h3 ⟨cs, fr, h6⟩).trans h6, h4⟩
theorem SgOk.below {w w' : World} {B : Nat} {x : Rw × Sl} (h : SgOk w B x) (hb : Below B w w') : SgOk w' B x := h.keep fun k hk _ => hb.block k hk
theorem SgOk.more {w : World} {B B' : Nat} {x : Rw × Sl} (h : SgOk w B x) (hb : B ≤ B') : SgOk w B' x := by
  unfold SgOk at *
  generalize x.1.2.2.2 = q at *
  cases q with
  | none => exact h
  | some l =>
    obtain ⟨ad, c, cs, fr, h1, h2, h3, h5, h6, h4⟩ := h
    exact ⟨ad, c, cs, fr, h1, h2, Nat.lt_of_lt_of_le h3 hb, h5, h6, h4⟩
theorem End_any (f n : Nat) (t : Int) (v : Value) (hf : f + n ≤ 1048576) (w : World) :
    Calls Tryd.prog 40 #[.agg #[.int .i64 (f : Int), .int .i64 (n : Int), .int .i32 t, v]] w fun e w' => e = .returned (.int .i64 ((f : Int) + n)) ∧ Below w.heap.size w w' := by
  have e1 : IntKind.i64.wrap ((f : Int) + n) = (f : Int) + n := IntWalk.i64_in _ (by omega)
  go_enter Tryd.func40, Tryd.ntmps40
  go_wp2_with fail
  go_ret
  exact ⟨rfl, (Below.refl _ w).alloc (Nat.le_refl _) _⟩
def insideB (f n : Int) : Bool := decide (0 ≤ f ∧ 1 ≤ n ∧ f + n ≤ 1048576)
theorem Inside_any (f n : Int) (hf : -9223372036854775808 ≤ f ∧ f < 9223372036854775808) (w : World) :
    Calls Tryd.prog 63 #[.int .i64 f, .int .i64 n] w fun e w' => e = .returned (.bool (insideB f n)) ∧ w = w' := by
  by_cases h1 : 0 ≤ f
  · by_cases h2 : f < 1048576
    · have e1 : IntKind.i64.wrap (1048576 - f) = 1048576 - f := IntWalk.i64_in _ (by omega)
      by_cases h3 : 1 ≤ n
      · have hr : insideB f n = decide (n ≤ 1048576 - f) := by unfold insideB; exact decide_eq_decide.2 (by omega)
        rw [hr]
        go_enter Tryd.func63, Tryd.ntmps63
        go_wp2_with fail
        go_ret
        exact ⟨rfl, rfl⟩
      · have hr : insideB f n = false := by unfold insideB; exact decide_eq_false (by omega)
        rw [hr]
        go_enter Tryd.func63, Tryd.ntmps63
        go_wp2_with fail
        go_ret
        exact ⟨rfl, rfl⟩
    · have hr : insideB f n = false := by unfold insideB; exact decide_eq_false (by omega)
      rw [hr]
      go_enter Tryd.func63, Tryd.ntmps63
      go_wp2_with fail
      go_ret
      exact ⟨rfl, rfl⟩
  · have hr : insideB f n = false := by unfold insideB; exact decide_eq_false (by omega)
    rw [hr]
    go_enter Tryd.func63, Tryd.ntmps63
    go_wp2_with fail
    go_ret
    exact ⟨rfl, rfl⟩
theorem Seq_any (f : Int) (t : Int) (n : Int) (w : World) :
    Calls Tryd.prog 16 #[.int .i64 f, .int .i32 t, .int .i64 n] w fun e w' => e = .returned (.agg #[.int .i64 f, .int .i32 t, .int .i64 n, .string ⟨#[]⟩]) ∧ Below w.heap.size w w' := by
  go_enter Tryd.func16, Tryd.ntmps16
  go_wp2_with fail
  refine bodyPost_ret (v := .agg #[.int .i64 f, .int .i32 t, .int .i64 n, .string ⟨#[]⟩]) (by simp [results, Tryd.results16, go_sem]) rfl ⟨rfl, ?_⟩
  exact (Below.refl _ w).alloc (Nat.le_refl _) _
theorem List_any (f : Int) (s : ByteArray) (w : World) :
    Calls Tryd.prog 34 #[.int .i64 f, .string s] w fun e w' => e = .returned (.agg #[.int .i64 f, .int .i32 0, .int .i64 0, .string s]) ∧ Below w.heap.size w w' := by
  go_enter Tryd.func34, Tryd.ntmps34
  go_wp2_with fail
  refine bodyPost_ret (v := .agg #[.int .i64 f, .int .i32 0, .int .i64 0, .string s]) (by simp [results, Tryd.results34, go_sem]) rfl ⟨rfl, ?_⟩
  exact (Below.refl _ w).alloc (Nat.le_refl _) _
/-- The sign of a code that a row has. -/
theorem RwSg_any (x : Rw × Sl) (c : Nat) (hx : RwOk x.1) (hc : x.1.1 ≤ c ∧ c < x.1.1 + x.1.2.1) (w : World) (hs : SgOk w w.heap.size x) :
    Calls Tryd.prog 41 #[.agg (rV x).toArray, .int .i64 (c : Int)] w fun e w' => e = .returned (.int .i32 (sgAt x.1 (c - x.1.1))) ∧ Below w.heap.size w w' := by
  obtain ⟨⟨f, n, t, q⟩, v⟩ := x
  obtain ⟨h1, h2, h3⟩ := hx
  simp only at h1 h2 h3 hc
  have e1 : IntKind.i64.wrap ((c : Int) - f) = (c : Int) - f := IntWalk.i64_in _ (by omega)
  have e2 : ((c : Int) - f).toNat = c - f := by omega
  have hcf : (c : Int) - f = ((c - f : Nat) : Int) := by omega
  cases q with
  | none =>
    obtain rfl : v = (none, 0, 0) := hs
    simp only at h3
    have e3 : IntKind.i32.wrap ((c : Int) - f) = (c : Int) - f := IntWalk.i32_in _ (by omega)
    have e4 : IntKind.i32.wrap (t + ((c : Int) - f)) = t + ((c : Int) - f) := IntWalk.i32_in _ (by omega)
    have hr : sgAt (f, n, t, none) (c - f) = t + ((c - f : Nat) : Int) := rfl
    simp only
    rw [hr]
    unfold rV slV
    simp only
    have hnn := fun (w : World) (a : Option Addr) (n c : Nat) => run_neq_slice_nil_any (P := Tryd.prog) w 71 _ a n c 0 0 Tryd.underlying71
    go_enter Tryd.func41, Tryd.ntmps41
    go_wp2_with fail
    go_ret
    exact ⟨rfl, (Below.refl _ w).alloc (Nat.le_refl _) _⟩
  | some l =>
    obtain ⟨ad, cp, cs, fr, hv, hcp, hbk, hsp, hh, hcs⟩ := hs
    have hcell : ∀ j, j < l.length → w.cell? (ad.add j) = some (.int .i32 (l.getD j 0)) := fun j hj => (sg_cell hsp hh j).trans (hcs j hj)
    clear hcs hh
    simp only at hv hcp hcell h3
    subst hv
    have hl : c - f < l.length := by omega
    have hab : (ad.add (c - f)).block < w.heap.size := by unfold Addr.add; split <;> exact hbk
    have hce := fun o => (World.cell?_alloc_lt w o _ hab).trans (hcell (c - f) hl)
    have hr : sgAt (f, n, t, some l) (c - f) = l.getD (c - f) 0 := rfl
    simp only
    rw [hr]
    generalize l.getD (c - f) 0 = z at *
    clear hcell hr
    unfold rV slV
    simp only
    have hnn := fun (w : World) (a : Option Addr) (n c : Nat) => run_neq_slice_nil_any (P := Tryd.prog) w 71 _ a n c 0 0 Tryd.underlying71
    go_enter Tryd.func41, Tryd.ntmps41
    go_wp2_with fail
    go_ret
    exact ⟨rfl, (Below.refl _ w).alloc (Nat.le_refl _) _⟩
end Go.Proofs.YtpnjandlpbjddabDoor
