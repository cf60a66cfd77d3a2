/- The law BigPairs returns true; condition: the cell of the library's MaxLen holds some int. -/
import Derived.Test.YtnalckiibcbgoaaB14
import Derived.Test.YtnalckiibcbgoaaB15
set_option maxRecDepth 100000
set_option maxHeartbeats 4000000
namespace Go.Proofs.Ytnalckiibcbgoaa
open Go Go.RowKit

theorem pv_get (l : List (Int × Int)) (i : Nat) (hi : i < l.length) : (pv l)[i * 2]? = some (.int .i64 (l.getD i (0, 0)).1) ∧ (pv l)[i * 2 + 1]? = some (.int .i32 (l.getD i (0, 0)).2) := by
  induction l generalizing i with
  | nil => simp at hi
  | cons t l ih =>
    have e : pv (t :: l) = .int .i64 t.1 :: .int .i32 t.2 :: pv l := rfl
    cases i with
    | zero => rw [e]; exact ⟨rfl, rfl⟩
    | succ i =>
      have := ih i (by simpa using hi)
      rw [e, show (i + 1) * 2 = i * 2 + 1 + 1 by omega]
      simpa using this
/-- The pairs lie in the slice. -/
def PairsAt (w : World) (ad : Addr) : Prop := ∀ i, i < 610 → w.cell? (ad.add (i * 2)) = some (.int .i64 (cd i)) ∧ w.cell? ⟨(ad.add (i * 2)).block, (ad.add (i * 2)).off + 1, none⟩ = some (.int .i32 (pt i))
theorem PairsAt.below {w w' : World} {ad : Addr} (h : PairsAt w ad) (hb : Below w.heap.size w w') : PairsAt w' ad := fun i hi => ⟨bcell_keep (h i hi).1 hb, bcell_keep (h i hi).2 hb⟩
theorem PairsV (w : World) : Calls Try.prog 13 #[] w fun e w' => ∃ ad c, e = .returned (.slice (some ad) 610 c) ∧ 610 ≤ c ∧ PairsAt w' ad ∧ Below w.heap.size w w' := by
  refine (Pairs_any w).mono ?_
  rintro e w' ⟨v, rfl, hown, hb⟩
  obtain ⟨A, c, rfl, hc, hr⟩ := Reads.of_own hown
  obtain ⟨ad, rfl, _, hcl⟩ := hr.2 (by omega)
  refine ⟨ad, c, rfl, hc, fun i hi => ?_, hb⟩
  have := pv_get FP i (by rw [FP_len]; exact hi)
  refine ⟨hcl _ _ this.1, ?_⟩
  have h2 := hcl _ _ this.2
  rw [← add_of_add, show (FP.getD i (0, 0)).2 = pt i from rfl] at h2
  generalize ad.add (i * 2) = a at h2 ⊢
  simpa [Addr.add] using h2
def LOut (w0 : World) (k l : Value) (wr : World) : Prop := ∃ K L : Nat, 129 ≤ L ∧ L ≤ 255 ∧ k = .int .i64 K ∧ l = .int .i64 L ∧ Inv K ((L : Int) * 256 + 64) ∧ Below w0.heap.size w0 wr
def LMid (L : Nat) (w0 : World) (k b : Value) (wr : World) : Prop := ∃ K B : Nat, 64 ≤ B ∧ B ≤ 255 ∧ k = .int .i64 K ∧ b = .int .i64 B ∧ Inv K ((L : Int) * 256 + B) ∧ Below w0.heap.size w0 wr
def LIn (K : Nat) (w0 : World) (i : Value) (wr : World) : Prop := ∃ I : Nat, I ≤ K ∧ i = .int .i64 I ∧ Below w0.heap.size w0 wr

theorem pairs_law (w : World) (hm : Max w) :
    Calls Try.prog 6 #[] w fun e w' => e = .returned (.bool true) ∧ Below w.heap.size w w' := by
  go_enter Try.func6, Try.ntmps6
  go_wp2_with (first | (go_at_call 13; refine (PairsV _).mono ?_; rintro e w1 ⟨ad, c, rfl, hc, hpr, hb1⟩))
  go_loopw [2, 3] (fun k l wr => LOut w1 k l wr) (fun _ l _ => 255 - (intOf l).toNat)
  case atStart => exact ⟨0, 129, by omega, by omega, rfl, rfl, Inv.start, Below.refl _ _⟩
  case round =>
    obtain ⟨K, L, hL0, hL1, rfl, rfl, hinv, hbr⟩ := hrel
    by_cases hL : L < 255
    · have hkd : decide ((L : Int) < 255) = true := decide_eq_true (by omega)
      go_wp2_with fail
      go_loopw [2, 4] (fun k b wr => LMid L w1 k b wr) (fun _ b _ => 255 - (intOf b).toNat)
      case atStart => exact ⟨K, 64, by omega, by omega, rfl, rfl, hinv, hbr⟩
      case round =>
        clear hinv hbr
        obtain ⟨K, B, hB0, hB1, rfl, rfl, hinv, hbr⟩ := hrel
        by_cases hB : B < 255
        · have hone := fun w => ROne_any L B ⟨by omega, by omega⟩ w
          have hsk := fun h => hinv.skip (lead := L) (b := B) ⟨by omega, by omega⟩ h
          have htk := fun h => hinv.take (lead := L) (b := B) (by omega) ⟨by omega, by omega⟩ h
          generalize rOne L (cellZ B) = p at *
          by_cases hp : p = 0
          · have Hs := Lib.hid (hsk hp)
            clear hsk htk hinv
            subst hp
            go_wp2_with (first | (go_at_call 14; refine (hone _).mono ?_; rintro e w2 ⟨rfl, hb2⟩))
            go_roundw
            case rel => exact ⟨K, B + 1, by omega, by omega, rfl, by go_num, Hs.out, hbr.trans (hb2.mono hbr.size)⟩
            case measure => simp [intOf]; omega
          · obtain ⟨hK, hcd, hpt, hnd, hin2⟩ := htk hp
            have Hi := Lib.hid hin2
            have Hnd := Lib.hid hnd
            clear hsk htk hinv hin2 hnd
            have hpb : (p == 0) = false := by simpa using hp
            have hK1 : ¬ (610 : Int) ≤ K := by omega
            have hKd : decide ((610 : Int) ≤ K) = false := decide_eq_false hK1
            have hBd : decide ((B : Int) < 255) = true := decide_eq_true (by omega)
            have hpr2 := hpr.below hbr
            obtain ⟨ce, cf⟩ := hpr2 K hK
            rw [hcd] at ce
            rw [hpt] at cf
            go_wp2_with (first | (go_at_call 14; refine (hone _).mono ?_; rintro e w2 ⟨rfl, hb2⟩; have ce2 := bcell_keep ce hb2; have cf2 := bcell_keep cf hb2))
            go_loopw [51] (fun i wr => LIn K w1 i wr) (fun i _ => K - (intOf i).toNat)
            case atStart => exact ⟨0, by omega, rfl, hbr.trans (hb2.mono hbr.size)⟩
            case round =>
              obtain ⟨I, hI, rfl, hbi⟩ := hrel
              clear hpr2 ce cf ce2 cf2
              by_cases hIK : I < K
              · have hne := Hnd.out I hIK
                obtain ⟨ci, di⟩ := (hpr.below hbi) I (by omega)
                have hpq : (pt I == p) = false := by simpa using hne
                generalize pt I = q at *
                generalize cd I = r at *
                clear Hnd
                go_wp2_with fail
                go_roundw
                case rel => exact ⟨I + 1, by omega, by go_num, hbi.alloc hbi.size _⟩
                case measure => simp [intOf]; omega
              · have hI2 : I = K := by omega
                subst hI2
                go_wp2_with fail
                go_roundw
                case rel => exact ⟨I + 1, B + 1, by omega, by omega, by go_num, by go_num, Hi.out, hbi⟩
                case measure => simp [intOf]; omega
        · have hB2 : B = 255 := by omega
          subst hB2
          have Hn := Lib.hid hinv.next
          clear hB hinv
          go_wp2_with fail
          go_roundw
          case rel => exact ⟨K, L + 1, by omega, by omega, rfl, by go_num, by simpa using Hn.out, hbr⟩
          case measure => simp [intOf]; omega
    · have hL2 : L = 255 := by omega
      subst hL2
      obtain rfl := hinv.last
      clear hL hinv
      have hB := hb1.trans (hbr.mono hb1.size)
      go_wp2_with (first | (go_at_call 9; refine (bawake _ (hm.below hB)).mono ?_; rintro e w3 ⟨rfl, hb3⟩))
      go_ret
      exact ⟨rfl, hB.trans (hb3.mono hB.size)⟩
end Go.Proofs.Ytnalckiibcbgoaa
