/- Contracts of lrc.Declared, the document's Declared and law23.Fault; condition: at most 1,000,000 bytes. -/
import Derived.Test.YtllmjlmeheohlaaYS
set_option maxRecDepth 100000
set_option maxHeartbeats 4000000
namespace Go.Proofs.Ytllmjlmeheohlaa
open Go Go.RowKit

def pCs : List UInt8 := [91, 99, 115, 58]
def csN (T : List UInt8) : Option (List UInt8) := if Lib.hasPrefix T pCs = true ∧ Lib.hasSuffix (T.drop 4) [93] = true then some ((T.drop 4).take (T.length - 5)) else none
def declL : List Ln → List UInt8
  | [] => []
  | x :: l => (csN x.1).getD (declL l)
theorem csN_eq (T : List UInt8) : csN T = if 5 ≤ T.length ∧ T.take 4 = pCs ∧ T[T.length - 1]? = some 93 then some ((T.drop 4).take (T.length - 5)) else none := by
  unfold csN
  rw [← Lib.hasPrefix_of_take, ← Lib.hasSuffix_of_drop]
  have hi : ((decide (pCs.length ≤ T.length) && (T.take pCs.length == pCs)) = true ∧ (decide ([93].length ≤ (T.drop 4).length) && ((T.drop 4).drop ((T.drop 4).length - [93].length) == ([93] : List UInt8))) = true) ↔ (5 ≤ T.length ∧ T.take 4 = pCs ∧ T[T.length - 1]? = some 93) := by
    simp only [Bool.and_eq_true, decide_eq_true_eq, beq_iff_eq, List.length_drop, List.drop_drop, List.length_singleton]
    rw [show pCs.length = 4 from rfl]
    constructor
    · rintro ⟨⟨h1, h2⟩, h3, h4⟩
      refine ⟨by omega, h2, ?_⟩
      rw [show 4 + (T.length - 4 - 1) = T.length - 1 by omega] at h4
      have := congrArg (fun l => l[0]?) h4
      simpa using this
    · rintro ⟨h1, h2, h3⟩
      refine ⟨⟨by omega, h2⟩, by omega, ?_⟩
      rw [show 4 + (T.length - 4 - 1) = T.length - 1 by omega, List.drop_eq_getElem_cons (by omega)]
      rw [List.getElem?_eq_getElem (by omega)] at h3
      injection h3 with h3
      rw [h3, List.drop_of_length_le (by omega)]
  split
  · rename_i h; rw [if_pos (hi.1 h)]
  · rename_i h; rw [if_neg (fun h2 => h (hi.2 h2))]
def DcRel (L : List Ln) (w0 : World) (i : Value) (wr : World) : Prop := ∃ k : Nat, k ≤ L.length ∧ i = .int .i64 k ∧ declL L = declL (L.drop k) ∧ Below w0.heap.size w0 wr
theorem linesF_le : ∀ (f : Nat) (r : List UInt8) (i : Nat), ∀ x ∈ linesF f r i, x.1.length ≤ r.length
  | 0, r, i, x, h => by simp [linesF] at h
  | f + 1, r, i, x, h => by
    unfold linesF at h
    split at h
    · simp at h
    · have h2 := ln_le r
      rcases List.mem_cons.1 h with rfl | h
      · show (lnT r).length ≤ _; omega
      · have := linesF_le f _ _ x h
        rw [List.length_drop] at this
        omega
theorem LFault_any (a : Int) (w : World) :
    Calls Try.prog 21 #[.int .i64 a] w fun e w' => e = .returned (.agg #[.int .i64 (if a < 0 then 0 else 1), .int .i64 (if a < 0 then 0 else a)]) ∧ Below w.heap.size w w' := by
  by_cases h : a < 0
  · rw [if_pos h, if_pos h]
    go_enter Try.func21, Try.ntmps21
    go_wp2_with fail
    refine bodyPost_ret (v := .agg #[.int .i64 0, .int .i64 0]) (by simp [results, Try.results21, go_sem]) rfl ?_
    exact ⟨rfl, (Below.refl _ w).alloc (Nat.le_refl _) _⟩
  · rw [if_neg h, if_neg h]
    go_enter Try.func21, Try.ntmps21
    go_wp2_with fail
    refine bodyPost_ret (v := .agg #[.int .i64 1, .int .i64 a]) (by simp [results, Try.results21, go_sem]) rfl ?_
    exact ⟨rfl, (Below.refl _ w).alloc (Nat.le_refl _) _⟩
theorem Declared_any (s : ByteArray) (hs : s.size ≤ 1000000) (w : World) :
    Calls Try.prog 22 #[.string s] w fun e w' => e = .returned (.string (B (declL (linesL s.data.toList)))) ∧ Below w.heap.size w w' := by
  have hl0 := len_data s
  have hmem : ∀ x ∈ linesL s.data.toList, x.1.length ≤ s.size := fun x hx => by have := linesF_le _ _ _ x hx; omega
  have hln : (linesL s.data.toList).length ≤ 9 * s.size := by have := wt_le s.data.toList.length s.data.toList 0; have h2 := wt_len (linesL s.data.toList); unfold linesL at h2 ⊢; omega
  have hrl := fun w => Lines_any s hs w
  unfold LsPost at hrl
  generalize linesL s.data.toList = L at *
  have Hmem := Lib.hid hmem
  clear hmem
  go_enter Try.func22, Try.ntmps22
  go_wp2_with (go_at_call 39; refine (hrl _).mono ?_; rintro e w0 ⟨v, rfl, hr, hb0⟩; obtain ⟨A, c, rfl, hc, hA⟩ := rowsG hr; have HA := Lib.hid hA; clear hA)
  go_loopw [12] (fun i wr => DcRel L w0 i wr) (fun i _ => L.length - (intOf i).toNat)
  case atStart => exact ⟨0, by omega, rfl, by simp, Below.refl _ _⟩
  case round =>
    obtain ⟨k, hk, rfl, hl, hb⟩ := hrel
    have hz := hb.size
    by_cases hlt : k < L.length
    · obtain ⟨bk, rfl, hbk, hcell⟩ := HA.out (by omega)
      obtain ⟨⟨T, E, q⟩, hx⟩ : ∃ x, L[k]? = some x := ⟨L[k], List.getElem?_eq_getElem hlt⟩
      have hT : T.length ≤ s.size := Hmem.out _ (List.mem_of_getElem? hx)
      obtain ⟨c0, c1, c2⟩ := Rows3.at_ (f := lnV) (fun _ => rfl) hcell hx rfl
      have d0 := (hb.cell (p := ⟨bk, k * 3, none⟩) hbk).trans c0
      have d1 := (hb.cell (p := ⟨bk, k * 3 + 1, none⟩) hbk).trans c1
      have d2 := (hb.cell (p := ⟨bk, k * 3 + 2, none⟩) hbk).trans c2
      have hd := wt_drop L k _ hx
      rw [hd] at hl
      have hsT := B_size T
      clear c0 c1 c2 hcell hd
      have hp := fun w => Try.strings_CutPrefix (B T) ⟨#[91, 99, 115, 58]⟩ w
      rw [B_data] at hp
      have hsx := fun w => Try.strings_CutSuffix (B (T.drop 4)) ⟨#[93]⟩ w (by rw [B_size, List.length_drop]; omega)
      rw [B_data] at hsx
      simp only [declL] at hl
      cases h1 : Lib.hasPrefix T pCs with
      | false =>
        have hcs : csN T = none := by unfold csN; rw [h1]; simp
        rw [hcs] at hl
        have Hl := Lib.hid hl
        clear hl
        have hp2 : ∀ w, Calls Try.prog 40 #[.string (B T), .string ⟨#[91, 99, 115, 58]⟩] w fun e w' => e = .returned (.tuple #[.string (B (Lib.trimPrefix T pCs)), .bool false]) ∧ w' = w := fun w => by rw [← h1]; exact hp w
        clear hp
        go_wp2_with (go_at_call 40; refine (hp2 _).mono ?_; rintro e w1 ⟨rfl, rfl⟩)
        go_roundw
        case rel => exact ⟨k + 1, by omega, by simp, by simpa using Hl.out, hb.alloc (by omega) _⟩
        case measure => simp [intOf]; omega
      | true =>
        have htp : Lib.trimPrefix T pCs = T.drop 4 := by unfold Lib.trimPrefix; rw [h1]; rfl
        have hp2 : ∀ w, Calls Try.prog 40 #[.string (B T), .string ⟨#[91, 99, 115, 58]⟩] w fun e w' => e = .returned (.tuple #[.string (B (T.drop 4)), .bool true]) ∧ w' = w := fun w => by rw [← h1, ← htp]; exact hp w
        clear hp
        cases h2 : Lib.hasSuffix (T.drop 4) [93] with
        | false =>
          have hcs : csN T = none := by unfold csN; rw [h2]; simp
          rw [hcs] at hl
          have Hl := Lib.hid hl
          clear hl
          have hs2 : ∀ w, Calls Try.prog 41 #[.string (B (T.drop 4)), .string ⟨#[93]⟩] w fun e w' => e = .returned (.tuple #[.string (B (Lib.trimSuffix (T.drop 4) [93])), .bool false]) ∧ w' = w := fun w => by rw [← h2]; exact hsx w
          clear hsx
          go_wp2_with (first | (go_at_call 40; refine (hp2 _).mono ?_; rintro e w1 ⟨rfl, rfl⟩) | (go_at_call 41; refine (hs2 _).mono ?_; rintro e w1 ⟨rfl, rfl⟩))
          go_roundw
          case rel => exact ⟨k + 1, by omega, by simp, by simpa using Hl.out, hb.alloc (by omega) _⟩
          case measure => simp [intOf]; omega
        | true =>
          have hcs : csN T = some ((T.drop 4).take (T.length - 5)) := by unfold csN; rw [h1, h2]; simp
          rw [hcs] at hl
          have Hl := Lib.hid hl
          clear hl
          have hts : Lib.trimSuffix (T.drop 4) [93] = (T.drop 4).take (T.length - 5) := by unfold Lib.trimSuffix; rw [h2, if_pos rfl, List.length_drop]; congr 1
          have hs2 : ∀ w, Calls Try.prog 41 #[.string (B (T.drop 4)), .string ⟨#[93]⟩] w fun e w' => e = .returned (.tuple #[.string (B ((T.drop 4).take (T.length - 5))), .bool true]) ∧ w' = w := fun w => by rw [← h2, ← hts]; exact hsx w
          clear hsx
          go_wp2_with (first | (go_at_call 40; refine (hp2 _).mono ?_; rintro e w1 ⟨rfl, rfl⟩) | (go_at_call 41; refine (hs2 _).mono ?_; rintro e w1 ⟨rfl, rfl⟩))
          go_ret
          refine ⟨?_, bch hb0 (hb.alloc (by omega) _)⟩
          rw [Hl.out]; rfl
    · have hk2 : k = L.length := by omega
      have He := Lib.hid (show declL L = [] by rw [hl, List.drop_of_length_le (by omega)]; rfl)
      clear hl
      go_wp2_with fail
      go_ret
      refine ⟨?_, bch hb0 hb⟩
      rw [He.out]; rfl
theorem RDeclared_any (s : ByteArray) (hs : s.size ≤ 1000000) (w : World) :
    Calls Try.prog 23 #[.string s] w fun e w' => e = .returned (.string (B (declL (linesL s.data.toList)))) ∧ Below w.heap.size w w' := by
  have hl0 := len_data s
  have hmem : ∀ x ∈ linesL s.data.toList, x.1.length ≤ s.size := fun x hx => by have := linesF_le _ _ _ x hx; omega
  have hln : (linesL s.data.toList).length ≤ 9 * s.size := by have := wt_le s.data.toList.length s.data.toList 0; have h2 := wt_len (linesL s.data.toList); unfold linesL at h2 ⊢; omega
  have hrl := fun w => RLines_any s hs w
  unfold LsPost at hrl
  generalize linesL s.data.toList = L at *
  have Hmem := Lib.hid hmem
  clear hmem
  go_enter Try.func23, Try.ntmps23
  go_wp2_with (go_at_call 16; refine (hrl _).mono ?_; rintro e w0 ⟨v, rfl, hr, hb0⟩; obtain ⟨A, c, rfl, hc, hA⟩ := rowsG hr; have HA := Lib.hid hA; clear hA)
  go_loopw [4] (fun i wr => DcRel L w0 i wr) (fun i _ => L.length - (intOf i).toNat)
  case atStart => exact ⟨0, by omega, rfl, by simp, Below.refl _ _⟩
  case round =>
    obtain ⟨k, hk, rfl, hl, hb⟩ := hrel
    have hz := hb.size
    by_cases hlt : k < L.length
    · obtain ⟨bk, rfl, hbk, hcell⟩ := HA.out (by omega)
      obtain ⟨⟨T, E, q⟩, hx⟩ : ∃ x, L[k]? = some x := ⟨L[k], List.getElem?_eq_getElem hlt⟩
      have hT : T.length ≤ s.size := Hmem.out _ (List.mem_of_getElem? hx)
      obtain ⟨c0, c1, c2⟩ := Rows3.at_ (f := lnV) (fun _ => rfl) hcell hx rfl
      have d0 := (hb.cell (p := ⟨bk, k * 3, none⟩) hbk).trans c0
      have hd := wt_drop L k _ hx
      rw [hd] at hl
      have hsT := B_size T
      clear c0 c1 c2 hcell hd
      simp only [declL] at hl
      have hcs : csN T = if 5 ≤ T.length ∧ T.take 4 = pCs ∧ T[T.length - 1]? = some 93 then some ((T.drop 4).take (T.length - 5)) else none := csN_eq T
      by_cases h5 : 5 ≤ T.length
      · have Hl := Lib.hid hl
        clear hl
        have hget : T[T.length - 1]? = some (T[T.length - 1]'(by omega)) := List.getElem?_eq_getElem _
        have hgB : ∀ h : T.length - 1 < (B T).size, (B T)[T.length - 1]'h = T[T.length - 1]'(by omega) := fun h => rfl
        have hex : ((B T).extract 0 4).toList = T.take 4 := by rw [ByteArray.toList_eq, ext_data, B_data]; simp
        have Hget := Lib.hid hget
        have HgB := Lib.hid hgB
        have Hex := Lib.hid hex
        clear hget hgB hex hcs
        go_wp2_with fail
        · rename_i b1 b2 b3 b4
          go_ret
          have hcs := csN_eq T
          rw [Hex.out] at b2
          have hlast : T[T.length - 1]? = some 93 := by
            rw [Hget.out]
            have h9 := HgB.out (by omega)
            rw [h9] at b4
            congr 1
            apply UInt8.toNat_inj.1
            simp at b4
            show (T[T.length - 1]'(by omega)).toNat = 93
            omega
          rw [if_pos ⟨h5, b2, hlast⟩] at hcs
          refine ⟨?_, bch hb0 hb⟩
          rw [Hl.out, hcs, B_ext, List.drop_take]
          rfl
        · rename_i b1 b2 b3 b4
          have hcs := csN_eq T
          have hlast : ¬ (5 ≤ T.length ∧ T.take 4 = pCs ∧ T[T.length - 1]? = some 93) := by
            rintro ⟨_, _, h3⟩
            rw [Hget.out] at h3
            have h9 := HgB.out (by omega)
            rw [h9] at b4
            injection h3 with h3
            rw [h3] at b4
            exact absurd b4 (by decide)
          rw [if_neg hlast] at hcs
          exact ⟨⟨k + 1, by omega, by simp, by rw [Hl.out, hcs]; rfl, hb⟩, by simp [intOf]; omega⟩
        · rename_i b1 b2
          have hcs := csN_eq T
          rw [Hex.out] at b2
          rw [if_neg (fun h => b2 h.2.1)] at hcs
          exact ⟨⟨k + 1, by omega, by simp, by rw [Hl.out, hcs]; rfl, hb⟩, by simp [intOf]; omega⟩
      · have Hl := Lib.hid (show declL L = declL (L.drop (k + 1)) by rw [hl, hcs, if_neg (fun h => h5 h.1)]; rfl)
        clear hl
        go_wp2_with fail
        go_roundw
        case rel => exact ⟨k + 1, by omega, by simp, by simpa using Hl.out, hb⟩
        case measure => simp [intOf]; omega
    · have hk2 : k = L.length := by omega
      have He := Lib.hid (show declL L = [] by rw [hl, List.drop_of_length_le (by omega)]; rfl)
      clear hl
      go_wp2_with fail
      go_ret
      refine ⟨?_, bch hb0 hb⟩
      rw [He.out]; rfl
end Go.Proofs.Ytllmjlmeheohlaa
