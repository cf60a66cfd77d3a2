/- The law BigSigns returns true for every argument; condition: the cell of the library's MaxLen holds some int. -/
import Derived.Test.YtnalckiibcbgoaaB9
set_option maxRecDepth 100000
set_option maxHeartbeats 1000000
namespace Go.Proofs.Ytnalckiibcbgoaa
open Go Go.RowKit

/-- The cell of the library's MaxLen holds some int. -/
def Max (w : World) : Prop := ∃ m, w.cell? ⟨0, 0, none⟩ = some (.int .i64 m)
theorem Max.below {w w' : World} (h : Max w) (hb : Below w.heap.size w w') : Max w' := by
  obtain ⟨m, hm⟩ := h
  exact ⟨m, bcell_keep hm hb⟩
theorem Bytes_any (A : Option Addr) (c : Nat) (l : List Int) (w : World) (hn : Nums w w.heap.size .i32 A l) (hl : l.length ≤ 1000) (hm : Max w) :
    Calls Try.prog 11 #[.slice A l.length c] w fun e w' => e = .returned (.tuple #[.string ⟨(bytesL l).1.toArray⟩, .int .i64 (bytesL l).2]) ∧ Below w.heap.size w w' := by
  cases l with
  | nil => exact Bytes_empty A c w
  | cons x r =>
    obtain ⟨ad, rfl, _, _⟩ := hn.at_ (i := 0) (by simp)
    obtain ⟨m, hm⟩ := hm
    exact Bytes_some ad c _ (x :: r) rfl w hn (by simp) hl m hm

theorem awake_signs : signsL 136 98 = [202, 772] := by decide +kernel
theorem awake_bytes : bytesL [202, 65] = ([136, 102], 1) := by decide +kernel
theorem BAwake (w : World) (hm : Max w) :
    Calls Try.prog 20 #[] w fun e w' => e = .returned (.bool true) ∧ Below w.heap.size w w' := by
  have hs := fun w => Signs_any 136 98 (by decide) (by decide) w
  rw [awake_signs] at hs
  have e1 : (⟨(textL [202, 772]).toArray⟩ : ByteArray) = ⟨#[195, 138, 204, 132]⟩ := by decide +kernel
  rw [e1] at hs
  have hb := fun A c w hn hm => Bytes_any A c [202, 65] w hn (by simp) hm
  rw [awake_bytes] at hb
  have e2 : decide (([202, 772] : List Int) ≠ []) = true := by decide
  rw [e2] at hs
  clear e1 e2
  go_enter Try.func20, Try.ntmps20
  go_wp2_with (first | (go_at_call 7; refine (hs _).mono ?_; rintro e w1 ⟨rfl, hb1⟩; have hB := hb1.alloc hb1.size (.cells #[.int .i32 202, .int .i32 65] 21)) | (go_at_call 11; refine (hb _ _ _ (by have := nums_new w1 21 [202, 65] .i32; simpa using this) (hm.below hB)).mono ?_; rintro e w2 ⟨rfl, hb2⟩))
  go_ret
  exact ⟨rfl, hB.trans (hb2.mono hB.size)⟩
theorem bawake (w : World) (hm : Max w) :
    Calls Try.prog 9 #[] w fun e w' => e = .returned (.bool true) ∧ Below w.heap.size w w' := by
  go_enter Try.func9, Try.ntmps9
  go_wp2_with (go_at_call 20; refine (BAwake _ hm).mono ?_; rintro e w1 ⟨rfl, hb1⟩)
  go_ret
  exact ⟨rfl, hb1⟩

theorem two_bytes : bytesL [202, 772] = (codeB (136 * 256 + 98), 2) ∧ bytesL [202, 780] = (codeB (136 * 256 + 100), 2) ∧ bytesL [234, 772] = (codeB (136 * 256 + 163), 2) ∧ bytesL [234, 780] = (codeB (136 * 256 + 165), 2) := by decide +kernel
theorem back (lead b : Int) (h : signsL lead b ≠ []) : bytesL (signsL lead b) = (codeB (lead * 256 + b), ((signsL lead b).length : Int)) := by
  by_cases h1 : oneZ lead b = 0
  · have e : signsL lead b = twoL lead b := by unfold signsL; rw [if_neg (by simp [h1])]
    rw [e] at h ⊢
    by_cases h136 : lead = 136
    · subst h136
      obtain ⟨t1, t2, t3, t4⟩ := two_bytes
      simp only [twoL, TW, twoF] at h ⊢
      by_cases k0 : b = 98
      · subst k0; exact t1
      by_cases k1 : b = 100
      · subst k1; exact t2
      by_cases k2 : b = 163
      · subst k2; exact t3
      by_cases k3 : b = 165
      · subst k3; exact t4
      simp [k0, k1, k2, k3] at h
    · rw [twoL_no h136] at h
      exact absurd rfl h
  · have e : signsL lead b = [oneZ lead b] := by unfold signsL; rw [if_pos h1]
    rw [e]
    have hs := oneZ_small lead b
    have hc : 0 ≤ cellZ b := by
      have := (cellZ_lt b).1
      by_cases hc : cellZ b < 0
      · exact absurd (if_pos hc) h1
      · omega
    have hz : oneZ lead b = oneL SP lead (cellZ b) := if_neg (by omega)
    have hf : findP (oneZ lead b) = lead * 256 + b := by
      rcases (one_any lead b hc).2 with h0 | h0
      · rw [← hz] at h0; exact absurd h0 h1
      · unfold findP; rw [if_neg (by omega), hz]; exact h0
    have ht : twoB TW [oneZ lead b] = -1 := by simp [TW, twoB]
    have hpos : 0 ≤ lead * 256 + b := by
      have : 0 ≤ lead := by
        by_cases hl : 0 ≤ lead
        · exact hl
        · have := (one_any lead b hc).1
          rw [← hz] at this
          unfold rOne rowL at this
          rw [if_neg (by omega), if_neg (by omega), if_neg (by omega), if_neg (by omega), if_neg (by omega), if_neg (by omega)] at this
          exact absurd this h1
      have hb : 0 ≤ b := by unfold cellZ at hc; repeat' split at hc
                            all_goals omega
      omega
    unfold bytesL
    rw [if_neg (by simp), ht, if_neg (by decide)]
    have e0 : [oneZ lead b].getD 0 0 = oneZ lead b := rfl
    rw [e0, hf, if_pos hpos]
    rfl

theorem signs_law (lead b : Int) (hl : 0 ≤ lead ∧ lead ≤ 255) (hb : 0 ≤ b ∧ b ≤ 255) (w : World) (hm : Max w) :
    Calls Try.prog 3 #[.int .u8 lead, .int .u8 b] w fun e w' => e = .returned (.bool true) ∧ Below w.heap.size w w' := by
  have hs := fun w => Signs_any lead b hl hb w
  have hr := fun w => RSigns_any lead b ⟨by omega, by omega⟩ ⟨by omega, by omega⟩ w
  rw [signs_eq lead b hl hb] at hr
  by_cases h : signsL lead b = []
  · rw [h] at hs hr
    have e : (⟨(textL []).toArray⟩ : ByteArray) = ⟨#[]⟩ := rfl
    rw [e] at hs hr
    rw [decide_eq_false (by simp)] at hs
    clear e h
    go_enter Try.func3, Try.ntmps3
    go_wp2_with (first | (go_at_call 7; refine (hs _).mono ?_; rintro e w1 ⟨rfl, hb1⟩) | (go_at_call 8; refine (hr _).mono ?_; rintro e w2 ⟨rfl, hb2⟩; have hB := hb1.trans (hb2.mono hb1.size)) | (go_at_call 9; refine (bawake _ (hm.below hB)).mono ?_; rintro e w3 ⟨rfl, hb3⟩))
    go_ret
    exact ⟨rfl, hB.trans (hb3.mono hB.size)⟩
  · rw [decide_eq_true h] at hs
    have hsc : ∀ p ∈ signsL lead b, scalarB p = true := by
      rw [← signs_eq lead b hl hb]
      unfold rSignsL
      split
      · have := rTwo_scal (lead * 256 + b)
        intro p hp
        simp at hp
        rcases hp with rfl | rfl
        · exact this.1
        · exact this.2
      · split
        · have := rOne_scal lead (cellZ b) (by assumption)
          intro p hp
          simp at hp
          rw [hp]; exact this
        · intro p hp; simp at hp
    have hlen : (signsL lead b).length ≤ 2 := by
      unfold signsL
      split
      · simp
      · by_cases h136 : lead = 136
        · simp only [twoL, TW, twoF]; repeat' split
          all_goals simp
        · rw [twoL_no h136]; simp
    have hbk := back lead b h
    rw [codeB_of hb] at hbk
    have hne : textL (signsL lead b) ≠ [] := by
      intro e
      have h1 := (len_textL (signsL lead b)).1
      rw [e, List.length_nil] at h1
      have h2 := List.length_pos_iff.2 h
      omega
    generalize signsL lead b = l at *
    have hg := good_text hsc
    have hbs := fun A c w hn hm => Bytes_any A c l w hn (by omega) hm
    rw [hbk] at hbs
    have hts := (len_textL l).2
    have hsz : (⟨(textL l).toArray⟩ : ByteArray).size = (textL l).length := hg.size
    have hnn : (⟨(textL l).toArray⟩ : ByteArray).toList.isEmpty = false := by
      rw [ByteArray.toList_eq]
      show ((textL l).toArray.toList).isEmpty = false
      cases hl : textL l with
      | nil => exact absurd hl hne
      | cons _ _ => rfl
    clear hbk hne hsc h
    generalize hT : (⟨(textL l).toArray⟩ : ByteArray) = T at *
    clear hT
    have hcv := fun w => conv2 (P := Try.prog) 31 9 5 Try.underlying31 Try.underlying5 Try.underlying9 w lead b 2
    go_enter Try.func3, Try.ntmps3
    go_wp2_with (first | (go_at_call 7; refine (hs _).mono ?_; rintro e w1 ⟨rfl, hb1⟩) | (go_at_call 8; refine (hr _).mono ?_; rintro e w2 ⟨rfl, hb2⟩; have hB := hb1.trans (hb2.mono hb1.size)) | (go_at_call 10; refine (RPoints_good T l hg (by omega) _).mono ?_; rintro e w3 ⟨A, c, rfl, hcap, hn3, hb3⟩; have hB3 := hB.trans (hb3.mono hB.size)) | (go_at_call 11; refine (hbs _ _ _ hn3 (hm.below hB3)).mono ?_; rintro e w4 ⟨rfl, hb4⟩; have hB4 := hB3.trans (hb4.mono hB3.size)) | (go_at_call 9; refine (bawake _ (hm.below hB4)).mono ?_; rintro e w5 ⟨rfl, hb5⟩; have hB5 := hB4.trans (hb5.mono hB4.size)))
    go_ret
    refine ⟨ret_bool ?_, hB5.alloc hB5.size _⟩
    rw [ByteArray.toList_eq]
    exact beq_self_eq_true ([UInt8.ofNat lead.toNat, UInt8.ofNat b.toNat] : List UInt8)
end Go.Proofs.Ytnalckiibcbgoaa
