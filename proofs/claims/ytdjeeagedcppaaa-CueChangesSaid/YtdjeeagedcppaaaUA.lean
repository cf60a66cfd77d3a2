/- Contracts of cue.Declared and of the document's Declared (chapter 23); condition: at most 1,000,000 bytes. -/
import Derived.Test.YtdjeeagedcppaaaYT
set_option maxRecDepth 100000
set_option maxHeartbeats 4000000
namespace Go.Proofs.Ytdjeeagedcppaaa
open Go Go.RowKit

def pRem : List UInt8 := [82, 69, 77, 32, 67, 72, 65, 82, 83, 69, 84, 32]
def chL : List Ln → List UInt8
  | [] => []
  | x :: l => if Lib.hasPrefix x.1 pRem = true then x.1.drop 12 else chL l
def ChRel (L : List Ln) (w0 : World) (i : Value) (wr : World) : Prop := ∃ k : Nat, k ≤ L.length ∧ i = .int .i64 k ∧ chL L = chL (L.drop k) ∧ Below w0.heap.size w0 wr
theorem CDeclared_any (s : ByteArray) (hs : s.size ≤ 1000000) (w : World) :
    Calls Try.prog 9 #[.string s] w fun e w' => e = .returned (.string (B (chL (linesL s.data.toList)))) ∧ Below w.heap.size w w' := by
  have hl0 := len_data s
  have hmem : ∀ x ∈ linesL s.data.toList, x.1.length ≤ s.size := fun x hx => by have := linesF_le _ _ _ x hx; omega
  have hln : (linesL s.data.toList).length ≤ 9 * s.size := by have := wt_le s.data.toList.length s.data.toList 0; have h2 := wt_len (linesL s.data.toList); unfold linesL at h2 ⊢; omega
  have hrl := fun w => Lines_any s hs w
  unfold LsPost at hrl
  generalize linesL s.data.toList = L at *
  have Hmem := Lib.hid hmem
  clear hmem
  go_enter Try.func9, Try.ntmps9
  go_wp2_with (go_at_call 15; refine (hrl _).mono ?_; rintro e w0 ⟨v, rfl, hr, hb0⟩; obtain ⟨A, c, rfl, hc, hA⟩ := rowsG hr; have HA := Lib.hid hA; clear hA)
  go_loopw [10] (fun i wr => ChRel L w0 i wr) (fun i _ => L.length - (intOf i).toNat)
  case atStart => exact ⟨0, by omega, rfl, by simp, Below.refl _ _⟩
  case round =>
    obtain ⟨k, hk, rfl, hl, hb⟩ := hrel
    have hz := hb.size
    by_cases hlt : k < L.length
    · obtain ⟨bk, rfl, hbk, hcell⟩ := HA.out (by omega)
      obtain ⟨⟨T, E, q⟩, hx⟩ : ∃ x, L[k]? = some x := ⟨L[k], List.getElem?_eq_getElem hlt⟩
      have hT : T.length ≤ s.size := Hmem.out _ (List.mem_of_getElem? hx)
      obtain ⟨c0, c1, c2⟩ := Rows3.at_ (f := lnV) (fun _ => rfl) hcell hx rfl
      have d0 := (hb.cell (p := ⟨bk, k * 3, none⟩) hbk).trans c0
      have d1 := (hb.cell (p := ⟨bk, k * 3 + 1, none⟩) hbk).trans c1
      have d2 := (hb.cell (p := ⟨bk, k * 3 + 2, none⟩) hbk).trans c2
      have hd := wt_drop L k _ hx
      rw [hd] at hl
      have hsT := B_size T
      clear c0 c1 c2 hcell hd
      simp only [chL] at hl
      have hp := fun w => Try.strings_CutPrefix (B T) ⟨#[82, 69, 77, 32, 67, 72, 65, 82, 83, 69, 84, 32]⟩ w
      rw [B_data] at hp
      cases h1 : Lib.hasPrefix T pRem with
      | false =>
        rw [h1, if_neg (by decide)] at hl
        have Hl := Lib.hid hl
        clear hl
        have hp2 : ∀ w, Calls Try.prog 16 #[.string (B T), .string ⟨#[82, 69, 77, 32, 67, 72, 65, 82, 83, 69, 84, 32]⟩] w fun e w' => e = .returned (.tuple #[.string (B (Lib.trimPrefix T pRem)), .bool false]) ∧ w' = w := fun w => by rw [← h1]; exact hp w
        clear hp
        go_wp2_with (go_at_call 16; refine (hp2 _).mono ?_; rintro e w1 ⟨rfl, rfl⟩)
        go_roundw
        case rel => exact ⟨k + 1, by omega, by simp, by simpa using Hl.out, hb.alloc (by omega) _⟩
        case measure => simp [intOf]; omega
      | true =>
        rw [h1, if_pos rfl] at hl
        have Hl := Lib.hid hl
        clear hl
        have htp : Lib.trimPrefix T pRem = T.drop 12 := by unfold Lib.trimPrefix; rw [h1]; rfl
        have hp2 : ∀ w, Calls Try.prog 16 #[.string (B T), .string ⟨#[82, 69, 77, 32, 67, 72, 65, 82, 83, 69, 84, 32]⟩] w fun e w' => e = .returned (.tuple #[.string (B (T.drop 12)), .bool true]) ∧ w' = w := fun w => by rw [← h1, ← htp]; exact hp w
        clear hp
        go_wp2_with (go_at_call 16; refine (hp2 _).mono ?_; rintro e w1 ⟨rfl, rfl⟩)
        go_ret
        refine ⟨?_, bch hb0 (hb.alloc (by omega) _)⟩
        rw [Hl.out]; rfl
    · have hk2 : k = L.length := by omega
      have He := Lib.hid (show chL L = [] by rw [hl, List.drop_of_length_le (by omega)]; rfl)
      clear hl
      go_wp2_with fail
      go_ret
      refine ⟨?_, bch hb0 hb⟩
      rw [He.out]; rfl
theorem CRDeclared_any (s : ByteArray) (hs : s.size ≤ 1000000) (w : World) :
    Calls Try.prog 10 #[.string s] w fun e w' => e = .returned (.string (B (chL (linesL s.data.toList)))) ∧ Below w.heap.size w w' := by
  have hl0 := len_data s
  have hmem : ∀ x ∈ linesL s.data.toList, x.1.length ≤ s.size := fun x hx => by have := linesF_le _ _ _ x hx; omega
  have hln : (linesL s.data.toList).length ≤ 9 * s.size := by have := wt_le s.data.toList.length s.data.toList 0; have h2 := wt_len (linesL s.data.toList); unfold linesL at h2 ⊢; omega
  have hrl := fun w => RLines_any s hs w
  unfold LsPost at hrl
  generalize linesL s.data.toList = L at *
  have Hmem := Lib.hid hmem
  clear hmem
  go_enter Try.func10, Try.ntmps10
  go_wp2_with (go_at_call 17; refine (hrl _).mono ?_; rintro e w0 ⟨v, rfl, hr, hb0⟩; obtain ⟨A, c, rfl, hc, hA⟩ := rowsG hr; have HA := Lib.hid hA; clear hA)
  go_loopw [4] (fun i wr => ChRel L w0 i wr) (fun i _ => L.length - (intOf i).toNat)
  case atStart => exact ⟨0, by omega, rfl, by simp, Below.refl _ _⟩
  case round =>
    obtain ⟨k, hk, rfl, hl, hb⟩ := hrel
    have hz := hb.size
    by_cases hlt : k < L.length
    · obtain ⟨bk, rfl, hbk, hcell⟩ := HA.out (by omega)
      obtain ⟨⟨T, E, q⟩, hx⟩ : ∃ x, L[k]? = some x := ⟨L[k], List.getElem?_eq_getElem hlt⟩
      have hT : T.length ≤ s.size := Hmem.out _ (List.mem_of_getElem? hx)
      obtain ⟨c0, c1, c2⟩ := Rows3.at_ (f := lnV) (fun _ => rfl) hcell hx rfl
      have d0 := (hb.cell (p := ⟨bk, k * 3, none⟩) hbk).trans c0
      have d1 := (hb.cell (p := ⟨bk, k * 3 + 1, none⟩) hbk).trans c1
      have d2 := (hb.cell (p := ⟨bk, k * 3 + 2, none⟩) hbk).trans c2
      have hd := wt_drop L k _ hx
      rw [hd] at hl
      have hsT := B_size T
      clear c0 c1 c2 hcell hd
      simp only [chL] at hl
      have hpx := Lib.hasPrefix_of_take T pRem
      rw [show pRem.length = 12 from rfl] at hpx
      have hex : ((B T).extract 0 12).toList = T.take 12 := by rw [ByteArray.toList_eq, ext_data, B_data]; simp
      have Hex := Lib.hid hex
      have Hl := Lib.hid hl
      have Hpx := Lib.hid hpx
      clear hl hex hpx
      by_cases h12 : 12 ≤ T.length
      · go_wp2_with fail
        · rename_i b1 b2
          go_ret
          have h1 : Lib.hasPrefix T pRem = true := by
            rw [← Hpx.out]; rw [Hex.out] at b2; simp only [Bool.and_eq_true, decide_eq_true_eq]; exact ⟨h12, b2⟩
          refine ⟨?_, bch hb0 hb⟩
          rw [Hl.out, if_pos h1]
          refine ret_str ?_
          try rw [hsT]
          show (B T).extract 12 T.length = _
          rw [B_ext, List.take_length]
        · rename_i b1 b2
          have h1 : ¬ Lib.hasPrefix T pRem = true := by
            rw [← Hpx.out]; rw [Hex.out] at b2; intro h; simp only [Bool.and_eq_true] at h; exact absurd h.2 (by rw [show (T.take 12 == pRem) = false from b2]; decide)
          exact ⟨⟨k + 1, by omega, by simp, by rw [Hl.out, if_neg h1], hb⟩, by simp [intOf]; omega⟩
      · have h1 : ¬ Lib.hasPrefix T pRem = true := by
          rw [← Hpx.out]; intro h; simp only [Bool.and_eq_true, decide_eq_true_eq] at h; exact h12 h.1
        have Hl2 := Lib.hid (show chL L = chL (L.drop (k + 1)) by rw [Hl.out, if_neg h1])
        go_wp2_with fail
        go_roundw
        case rel => exact ⟨k + 1, by omega, by simp, Hl2.out, hb⟩
        case measure => simp [intOf]; omega
    · have hk2 : k = L.length := by omega
      have He := Lib.hid (show chL L = [] by rw [hl, List.drop_of_length_le (by omega)]; rfl)
      clear hl
      go_wp2_with fail
      go_ret
      refine ⟨?_, bch hb0 hb⟩
      rw [He.out]; rfl
end Go.Proofs.Ytdjeeagedcppaaa
