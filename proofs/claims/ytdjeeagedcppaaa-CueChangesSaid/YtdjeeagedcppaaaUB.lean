/- Contracts of cue.word, cue.whole; condition: less than 2^45 bytes. -/
import Derived.Test.YtdjeeagedcppaaaUA
import Derived.Test.YtdjeeagedcppaaaUC
set_option maxRecDepth 100000
set_option maxHeartbeats 4000000
namespace Go.Proofs.Ytdjeeagedcppaaa
open Go Go.RowKit

def WbRel (n : Nat) (w0 : World) (i : Value) (wr : World) : Prop := ∃ k : Nat, k ≤ n ∧ i = .int .i64 k ∧ wr = w0
def WeRel (b n : Nat) (w0 : World) (i : Value) (wr : World) : Prop := ∃ k : Nat, k ≤ n ∧ i = .int .i64 ((b + k : Nat) : Int) ∧ wr = w0
theorem tw_all_at (p : UInt8 → Bool) (s : ByteArray) (i : Nat) (hi : i ≤ s.size) :
    i + ((s.data.toList.drop i).takeWhile p).length ≤ s.size ∧ (∀ k, k < ((s.data.toList.drop i).takeWhile p).length → ∀ h : i + k < s.size, p s[i + k] = true) ∧ (∀ h : i + ((s.data.toList.drop i).takeWhile p).length < s.size, p s[i + ((s.data.toList.drop i).takeWhile p).length] = false) := by
  have hl0 := len_data s
  have hle := tw_le p (s.data.toList.drop i)
  have hdl : (s.data.toList.drop i).length = s.size - i := by rw [List.length_drop, hl0]
  refine ⟨by omega, fun k hk h => ?_, fun h => ?_⟩
  · have := tw_in p (s.data.toList.drop i) k (by omega) hk
    rw [drop_get s i k (by omega) h] at this; exact this
  · have := tw_out p (s.data.toList.drop i) (by omega)
    rw [drop_get s i _ (by omega) h] at this; exact this
theorem Word_any (s : ByteArray) (hs : s.size ≤ 35184372089000) (w : World) :
    Calls Try.prog 21 #[.string s] w fun e w' => e = .returned (.tuple #[.int .i64 (wB s.data.toList), .int .i64 (wE s.data.toList)]) ∧ w' = w := by
  obtain ⟨h1, h2, h3⟩ := tw_all_at blB s 0 (by omega)
  simp only [List.drop_zero, Nat.zero_add] at h1 h2 h3
  obtain ⟨g1, g2, g3⟩ := tw_all_at upB s (wB s.data.toList) h1
  have hE : wE s.data.toList = wB s.data.toList + ((s.data.toList.drop (wB s.data.toList)).takeWhile upB).length := rfl
  rw [hE]
  change wB s.data.toList ≤ s.size at h1
  change ∀ k, k < wB s.data.toList → _ at h2
  change ∀ h : wB s.data.toList < s.size, blB s[wB s.data.toList] = false at h3
  generalize ((s.data.toList.drop (wB s.data.toList)).takeWhile upB).length = m at *
  generalize wB s.data.toList = b at *
  have H2 := Lib.hid h2
  have H3 := Lib.hid h3
  have G2 := Lib.hid g2
  have G3 := Lib.hid g3
  clear h2 h3 g2 g3 hE
  go_enter Try.func21, Try.ntmps21
  go_wp2_with fail
  go_loopw [4] (fun i wr => WbRel b w i wr) (fun i _ => s.size - (intOf i).toNat)
  case atStart => exact ⟨0, by omega, rfl, rfl⟩
  case round =>
    obtain ⟨k, hk, rfl, rfl⟩ := hrel
    by_cases hkb : k < b
    · have hlt : k < s.size := by omega
      have hc := H2.out k hkb hlt
      unfold blB at hc
      by_cases h32 : (s[k].toNat : Int) = 32
      · go_wp2_with fail
        go_roundw
        case rel => exact ⟨k + 1, by omega, by simp, rfl⟩
        case measure => simp [intOf]; omega
      · have h9 : (s[k].toNat : Int) = 9 := by
          simp only [Bool.or_eq_true, beq_iff_eq] at hc
          rcases hc with e | e
          · rw [e] at h32; exact absurd rfl h32
          · rw [e]; rfl
        clear hc
        go_wp2_with fail
        go_roundw
        case rel => exact ⟨k + 1, by omega, by simp, rfl⟩
        case measure => simp [intOf]; omega
    · obtain rfl : k = b := by omega
      by_cases hbs : k < s.size
      · have hc := H3.out hbs
        unfold blB at hc
        simp only [Bool.or_eq_false_iff, beq_eq_false_iff_ne] at hc
        obtain ⟨c1, c2⟩ := hc
        have n1 : ((s[k].toNat : Int) == 32) = false := by rw [beq_eq_false_iff_ne]; exact fun e => c1 (UInt8.toNat_inj.1 (by show s[k].toNat = 32; omega))
        have n2 : ((s[k].toNat : Int) == 9) = false := by rw [beq_eq_false_iff_ne]; exact fun e => c2 (UInt8.toNat_inj.1 (by show s[k].toNat = 9; omega))
        clear c1 c2
        go_wp2_with fail
        go_loopw [5] (fun i wr2 => WeRel k m wr i wr2) (fun i _ => s.size - (intOf i).toNat)
        case atStart => exact ⟨0, by omega, rfl, rfl⟩
        case round =>
          obtain ⟨j, hj, rfl, rfl⟩ := hrel
          by_cases hjm : j < m
          · have hlt : k + j < s.size := by omega
            have hc := G2.out j hjm hlt
            unfold upB at hc
            simp only [Bool.and_eq_true, decide_eq_true_eq] at hc
            obtain ⟨c1, c2⟩ := hc
            have d1 : (65 : Int) ≤ s[k + j].toNat := by omega
            have d2 : (s[k + j].toNat : Int) ≤ 90 := by omega
            go_wp2_with fail
            go_roundw
            case rel => exact ⟨j + 1, by omega, by simp; omega, rfl⟩
            case measure => simp [intOf]; omega
          · obtain rfl : j = m := by omega
            by_cases hbm : k + j < s.size
            · have hc := G3.out hbm
              unfold upB at hc
              by_cases d1 : (65 : Int) ≤ s[k + j].toNat
              · have d2 : ¬ (s[k + j].toNat : Int) ≤ 90 := by
                  intro h
                  rw [decide_eq_true (by omega : 65 ≤ s[k + j].toNat), decide_eq_true (by omega : s[k + j].toNat ≤ 90)] at hc
                  cases hc
                clear hc
                go_wp2_with fail
                go_ret2
                exact ⟨rfl, rfl⟩
              · clear hc
                go_wp2_with fail
                go_ret2
                exact ⟨rfl, rfl⟩
            · go_wp2_with fail
              go_ret2
              exact ⟨rfl, rfl⟩
      · go_wp2_with fail
        go_loopw [5] (fun i wr2 => WeRel k m wr i wr2) (fun i _ => s.size - (intOf i).toNat)
        case atStart => exact ⟨0, by omega, rfl, rfl⟩
        case round =>
          obtain ⟨j, hj, rfl, rfl⟩ := hrel
          obtain rfl : j = m := by omega
          go_wp2_with fail
          go_ret2
          exact ⟨rfl, rfl⟩
end Go.Proofs.Ytdjeeagedcppaaa
