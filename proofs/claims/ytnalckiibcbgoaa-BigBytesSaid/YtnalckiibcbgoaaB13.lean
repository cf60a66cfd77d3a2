/- The law BigBytes returns true for every list; condition: the cell of the library's MaxLen holds some int. -/
import Derived.Test.YtnalckiibcbgoaaB12
set_option maxRecDepth 100000
set_option maxHeartbeats 4000000
namespace Go.Proofs.Ytnalckiibcbgoaa
open Go Go.RowKit

theorem SP_bd : SP.all (fun t => decide (0 ≤ t.1 ∧ t.1 ≤ 255 ∧ 0 ≤ cellZ t.2.1 ∧ cellZ t.2.1 + t.2.2.length ≤ 157)) = true := by decide +kernel
theorem findL_bd {l : List (Int × Int × List Int)} (hl : ∀ t ∈ l, t ∈ SP) (p : Int) : findL l p ≤ 65535 := by
  induction l with
  | nil => simp [findL]
  | cons t l ih =>
    have hb := List.all_eq_true.1 SP_bd t (hl t (by simp))
    simp only [decide_eq_true_eq] at hb
    have h1 := fnd_lt t.2.2 p
    simp only [findL]
    split
    · exact ih fun x hx => hl x (by simp [hx])
    · have := secondZ_bd (c := cellZ t.2.1 + fnd t.2.2 p) (by omega) (by omega)
      omega
theorem findP_bd (p : Int) : findP p ≤ 65535 := by
  unfold findP
  split
  · decide
  · exact findL_bd (fun _ h => h) p
theorem twoB_bd (l : List Int) : twoB TW l ≤ 255 := by
  by_cases h : 1 < l.length
  · rw [twoB_cases l h]
    repeat' split
    all_goals decide
  · simp [twoB, TW, h]
theorem both (l : List Int) : (bytesL l = ([], 0) ∧ (codeR l).2 = 0) ∨ ∃ v k : Int, 0 ≤ v ∧ v ≤ 65535 ∧ 0 < k ∧ bytesL l = (codeB v, k) ∧ codeR l = (v, k) := by
  unfold bytesL codeR
  by_cases h0 : l = []
  · rw [if_pos h0, if_pos h0]; exact .inl ⟨rfl, rfl⟩
  rw [if_neg h0, if_neg h0]
  by_cases h1 : 0 ≤ twoB TW l
  · have := twoB_bd l
    rw [if_pos h1, if_pos h1]
    exact .inr ⟨_, 2, by omega, by omega, by decide, rfl, rfl⟩
  rw [if_neg h1, if_neg h1]
  by_cases h2 : 0 ≤ findP (l.getD 0 0)
  · rw [if_pos h2, if_pos h2]
    exact .inr ⟨_, 1, h2, findP_bd _, by decide, rfl, rfl⟩
  · rw [if_neg h2, if_neg h2]; exact .inl ⟨rfl, rfl⟩

theorem bytes_law (A : Option Addr) (c : Nat) (l : List Int) (w : World) (hn : Nums w w.heap.size .i32 A l) (hm : Max w) :
    Calls Try.prog 4 #[.slice A l.length c] w fun e w' => e = .returned (.bool true) ∧ Below w.heap.size w w' := by
  by_cases h100 : 100 < l.length
  · have h100' : (100 : Int) < l.length := by omega
    go_enter Try.func4, Try.ntmps4
    go_wp2_with (first | (go_at_call 9; refine (bawake _ hm).mono ?_; rintro e w3 ⟨rfl, hb3⟩))
    go_ret
    exact ⟨rfl, hb3⟩
  have hby := fun w hn hm => Bytes_any A c l w hn (by omega) hm
  have hco := fun w hn => RCode_any A c l w hn (by omega)
  have h100' : ¬ (100 : Int) < l.length := by omega
  rcases both l with ⟨e1, e2⟩ | ⟨v, k, hv0, hv1, hk, e1, e2⟩
  · rw [e1] at hby
    rw [e2] at hco
    generalize (codeR l).1 = z at *
    clear e1 e2
    go_enter Try.func4, Try.ntmps4
    go_wp2_with (first | (go_at_call 11; refine (hby _ hn hm).mono ?_; rintro e w1 ⟨rfl, hb1⟩) | (go_at_call 12; refine (hco _ ((hn.below hb1).more hb1.size)).mono ?_; rintro e w2 ⟨rfl, hb2⟩; have hB := hb1.trans (hb2.mono hb1.size)) | (go_at_call 9; refine (bawake _ (hm.below hB)).mono ?_; rintro e w3 ⟨rfl, hb3⟩))
    go_ret
    exact ⟨rfl, hB.trans (hb3.mono hB.size)⟩
  · rw [e1] at hby
    rw [e2] at hco
    clear e1 e2
    have hk0 : (k == 0) = false := beq_eq_false_iff_ne.2 (by omega)
    have hdiv : v.tdiv 256 = v / 256 := Int.tdiv_eq_ediv_of_nonneg hv0
    have hmod : v.tmod 256 = v % 256 := Int.tmod_eq_emod_of_nonneg hv0
    have hcv := fun w => conv2 (P := Try.prog) 31 9 5 Try.underlying31 Try.underlying5 Try.underlying9 w (v / 256) (v % 256) 2
    have hq0 : 0 ≤ v / 256 ∧ v / 256 ≤ 255 := by omega
    have hr0 : 0 ≤ v % 256 ∧ v % 256 ≤ 255 := by omega
    obtain ⟨hq1, hq2⟩ := hq0
    obtain ⟨hr1, hr2⟩ := hr0
    simp only [codeB] at hby
    go_enter Try.func4, Try.ntmps4
    go_wp2_with (first | (go_at_call 11; refine (hby _ hn hm).mono ?_; rintro e w1 ⟨rfl, hb1⟩) | (go_at_call 12; refine (hco _ ((hn.below hb1).more hb1.size)).mono ?_; rintro e w2 ⟨rfl, hb2⟩; have hB := hb1.trans (hb2.mono hb1.size)) | (go_at_call 9; refine (bawake _ (hm.below hB)).mono ?_; rintro e w3 ⟨rfl, hb3⟩; have hB3 := hB.trans (hb3.mono hB.size)))
    go_ret
    refine ⟨ret_bool ?_, hB3.alloc hB3.size _⟩
    rw [ByteArray.toList_eq]
    exact beq_self_eq_true ([UInt8.ofNat (v / 256).toNat, UInt8.ofNat (v % 256).toNat] : List UInt8)
end Go.Proofs.Ytnalckiibcbgoaa
