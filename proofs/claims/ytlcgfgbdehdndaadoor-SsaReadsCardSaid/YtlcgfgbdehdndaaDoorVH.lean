/- Contracts of ssa.Parse, ssa.Declared and of the document's Declared; the example of layer 25; SsaDeclares holds, where MaxLen's cell holds a number; condition: at most 100,000 bytes for Parse. -/
import Derived.Test.YtlcgfgbdehdndaaDoorVG
import Derived.Test.YtlcgfgbdehdndaaDoorYT
import Derived.Test.YtlcgfgbdehdndaaDoorYZ
set_option maxRecDepth 100000
set_option maxHeartbeats 4000000
namespace Go.Proofs.YtlcgfgbdehdndaaDoor
open Go Go.RowKit

def PsPost (t : List UInt8) (w0 : World) (e : Ending) (w' : World) : Prop :=
  ∃ v x a, e = .returned (.tuple #[v, .agg #[.int .i64 x, .int .i64 a]]) ∧ WkRes (walkS ssaL (false, []) (linesL t)) w0.heap.size w' v x a ∧ Below w0.heap.size w0 w'
theorem ML_below {w w' : World} (h : ML w) (hb : Below w.heap.size w w') : ML w' := ML_heap h (hb.block _ (ML_lt h))
theorem SParse_any (s : ByteArray) (hs : s.size ≤ 100000) (w : World) (hm : ML w) :
    Calls Tryd.prog 5 #[.string s] w (PsPost s.data.toList w) := by
  generalize hP : PsPost s.data.toList w = P at *
  obtain ⟨W0, hW0⟩ : ∃ W0, W0 = w.alloc (.cells #[.int .i64 0, .int .i64 0] 26) := ⟨_, rfl⟩
  have hz0 : W0.heap.size = w.heap.size + 1 := by rw [hW0]; simp
  have hm0 : ML W0 := by rw [hW0]; exact ML_below hm ((Below.refl _ _).alloc (Nat.le_refl _) _)
  have hst : StS W0.heap.size (false, []) (W0.alloc (.cells #[.bool false, .bool false, .slice none 0 0] 39)) :=
    ⟨false, _, heap_alloc_new W0 _, by simp, .inl ⟨rfl, rfl, rfl⟩, ML_lt hm0, ML_below hm0 ((Below.refl _ _).alloc (Nat.le_refl _) _)⟩
  have hw := Walk_ssa ssaL W0.heap.size (StS W0.heap.size) (fun st w w' row h hg hr => h.grown hg hr) (fun st s w h hs => by
    have := SPieces_any W0.heap.size st (B s) (by rw [B_size]; exact h) w hs
    rw [B_data] at this
    exact this) ssaL_len (false, []) s hs (W0.alloc (.cells #[.bool false, .bool false, .slice none 0 0] 39)) (by simp) hst
  rw [hz0, hW0] at hw
  clear hst hm0
  go_enter Tryd.func5, Tryd.ntmps5
  go_wp2_with (go_at_call 11; refine hw.mono ?_; rintro e w1 ⟨v, x, a, rfl, hr, hb1⟩; have hb2 : Below (w.heap.size + 1) (w.alloc (.cells #[.int .i64 0, .int .i64 0] 26)) w1 := ((Below.refl _ _).alloc (by simp) _).trans ((hb1.mono (by simp)).below (Nat.le_refl _)); have hz1 := hb2.size; obtain ⟨c0, c1, f0, f1, hlt⟩ := box2 hb2)
  refine bodyPost_ret (v := .tuple #[v, .agg #[.int .i64 x, .int .i64 a]]) (by simp [results, Tryd.results5, go_sem, c0, c1]) rfl ?_
  rw [← hP]
  refine ⟨v, x, a, rfl, ?_, ((((Below.refl _ w).alloc (Nat.le_refl _) _).trans (hb2.mono (by omega))).setCell (Nat.le_refl _) _).setCell (Nat.le_refl _) _⟩
  exact ((hr.set (p := ⟨w.heap.size, 0, none⟩) (by simp; omega) _).set (p := ⟨w.heap.size, 1, none⟩) (by simp; omega) _).more (by simp; omega)
def pChs : List UInt8 := [67, 104, 97, 114, 115, 101, 116, 58, 32]
def shL : List Ln → List UInt8
  | [] => []
  | x :: l => if Lib.hasPrefix x.1 pChs = true then x.1.drop 9 else shL l
def ShRel (L : List Ln) (w0 : World) (i : Value) (wr : World) : Prop := ∃ k : Nat, k ≤ L.length ∧ i = .int .i64 k ∧ shL L = shL (L.drop k) ∧ Below w0.heap.size w0 wr
theorem SDeclared_any (s : ByteArray) (hs : s.size ≤ 1000000) (w : World) :
    Calls Tryd.prog 24 #[.string s] w fun e w' => e = .returned (.string (B (shL (linesL s.data.toList)))) ∧ Below w.heap.size w w' := by
  have hl0 := len_data s
  have hmem : ∀ x ∈ linesL s.data.toList, x.1.length ≤ s.size := fun x hx => by have := linesF_le _ _ _ x hx; omega
  have hln : (linesL s.data.toList).length ≤ 9 * s.size := by have := wt_le s.data.toList.length s.data.toList 0; have h2 := wt_len (linesL s.data.toList); unfold linesL at h2 ⊢; omega
  have hrl := fun w => Lines_any s hs w
  unfold LsPost at hrl
  generalize linesL s.data.toList = L at *
  have Hmem := Lib.hid hmem
  clear hmem
  go_enter Tryd.func24, Tryd.ntmps24
  go_wp2_with (go_at_call 35; refine (hrl _).mono ?_; rintro e w0 ⟨v, rfl, hr, hb0⟩; obtain ⟨A, c, rfl, hc, hA⟩ := rowsG hr; have HA := Lib.hid hA; clear hA)
  go_loopw [10] (fun i wr => ShRel L w0 i wr) (fun i _ => L.length - (intOf i).toNat)
  case atStart => exact ⟨0, by omega, rfl, by simp, Below.refl _ _⟩
  case round =>
    obtain ⟨k, hk, rfl, hl, hb⟩ := hrel
    have hz := hb.size
    by_cases hlt : k < L.length
    · obtain ⟨bk, rfl, hbk, hcell⟩ := HA.out (by omega)
      obtain ⟨⟨T, E, q⟩, hx⟩ : ∃ x, L[k]? = some x := ⟨L[k], List.getElem?_eq_getElem hlt⟩
      have hT : T.length ≤ s.size := Hmem.out _ (List.mem_of_getElem? hx)
      obtain ⟨c0, c1, c2⟩ := Rows3.at_ (f := lnV) (fun _ => rfl) hcell hx rfl
      have d0 := (hb.cell (p := ⟨bk, k * 3, none⟩) hbk).trans c0
      have d1 := (hb.cell (p := ⟨bk, k * 3 + 1, none⟩) hbk).trans c1
      have d2 := (hb.cell (p := ⟨bk, k * 3 + 2, none⟩) hbk).trans c2
      have hd := wt_drop L k _ hx
      rw [hd] at hl
      have hsT := B_size T
      clear c0 c1 c2 hcell hd
      simp only [shL] at hl
      have hp := fun w => Tryd.strings_CutPrefix (B T) ⟨#[67, 104, 97, 114, 115, 101, 116, 58, 32]⟩ w
      rw [B_data] at hp
      cases h1 : Lib.hasPrefix T pChs with
      | false =>
        rw [h1, if_neg (by decide)] at hl
        have Hl := Lib.hid hl
        clear hl
        have hp2 : ∀ w, Calls Tryd.prog 38 #[.string (B T), .string ⟨#[67, 104, 97, 114, 115, 101, 116, 58, 32]⟩] w fun e w' => e = .returned (.tuple #[.string (B (Lib.trimPrefix T pChs)), .bool false]) ∧ w' = w := fun w => by rw [← h1]; exact hp w
        clear hp
        go_wp2_with (go_at_call 38; refine (hp2 _).mono ?_; rintro e w1 ⟨rfl, rfl⟩)
        go_roundw
        case rel => exact ⟨k + 1, by omega, by simp, by simpa using Hl.out, hb.alloc (by omega) _⟩
        case measure => simp [intOf]; omega
      | true =>
        rw [h1, if_pos rfl] at hl
        have Hl := Lib.hid hl
        clear hl
        have htp : Lib.trimPrefix T pChs = T.drop 9 := by unfold Lib.trimPrefix; rw [h1]; rfl
        have hp2 : ∀ w, Calls Tryd.prog 38 #[.string (B T), .string ⟨#[67, 104, 97, 114, 115, 101, 116, 58, 32]⟩] w fun e w' => e = .returned (.tuple #[.string (B (T.drop 9)), .bool true]) ∧ w' = w := fun w => by rw [← h1, ← htp]; exact hp w
        clear hp
        go_wp2_with (go_at_call 38; refine (hp2 _).mono ?_; rintro e w1 ⟨rfl, rfl⟩)
        go_ret
        refine ⟨?_, bch hb0 (hb.alloc (by omega) _)⟩
        rw [Hl.out]; rfl
    · have hk2 : k = L.length := by omega
      have He := Lib.hid (show shL L = [] by rw [hl, List.drop_of_length_le (by omega)]; rfl)
      clear hl
      go_wp2_with fail
      go_ret
      refine ⟨?_, bch hb0 hb⟩
      rw [He.out]; rfl
def t25 : List UInt8 := [91, 69, 118, 101, 110, 116, 115, 93, 10, 70, 111, 114, 109, 97, 116, 58, 32, 83, 116, 97, 114, 116, 44, 32, 69, 110, 100, 44, 32, 84, 101, 120, 116, 10, 68, 105, 97, 108, 111, 103, 117, 101, 58, 32, 48, 58, 48, 48, 58, 48, 49, 46, 48, 48, 44, 48, 58, 48, 48, 58, 48, 50, 46, 48, 48, 44, 97, 44, 98]
theorem walk25 : ∃ qs : List Pc, walkS ssaL (false, []) (linesL t25) = .inl qs ∧ qs.length = 10 ∧ qs[9]? = some (false, [84, 101, 120, 116], [97, 44, 98]) := by
  refine ⟨match walkS ssaL (false, []) (linesL t25) with | .inl qs => qs | .inr _ => [], ?_, ?_, ?_⟩ <;> decide +kernel
theorem Parse25 (w : World) (hm : ML w) :
    Calls Tryd.prog 5 #[.string ⟨#[91, 69, 118, 101, 110, 116, 115, 93, 10, 70, 111, 114, 109, 97, 116, 58, 32, 83, 116, 97, 114, 116, 44, 32, 69, 110, 100, 44, 32, 84, 101, 120, 116, 10, 68, 105, 97, 108, 111, 103, 117, 101, 58, 32, 48, 58, 48, 48, 58, 48, 49, 46, 48, 48, 44, 48, 58, 48, 48, 58, 48, 50, 46, 48, 48, 44, 97, 44, 98]⟩] w fun e w' => ∃ bk c, e = .returned (.tuple #[.slice (some ⟨bk, 0, none⟩) 10 c, .agg #[.int .i64 0, .int .i64 0]]) ∧ 10 ≤ c ∧ bk < w'.heap.size ∧ w'.cell? ⟨bk, 27, none⟩ = some (.bool false) ∧ w'.cell? ⟨bk, 28, none⟩ = some (.string ⟨#[84, 101, 120, 116]⟩) ∧ w'.cell? ⟨bk, 29, none⟩ = some (.string ⟨#[97, 44, 98]⟩) ∧ Below w.heap.size w w' := by
  refine (SParse_any ⟨#[91, 69, 118, 101, 110, 116, 115, 93, 10, 70, 111, 114, 109, 97, 116, 58, 32, 83, 116, 97, 114, 116, 44, 32, 69, 110, 100, 44, 32, 84, 101, 120, 116, 10, 68, 105, 97, 108, 111, 103, 117, 101, 58, 32, 48, 58, 48, 48, 58, 48, 49, 46, 48, 48, 44, 48, 58, 48, 48, 58, 48, 50, 46, 48, 48, 44, 97, 44, 98]⟩ (by decide) w hm).mono ?_
  rintro e w' ⟨v, x, a, rfl, hr, hb⟩
  obtain ⟨qs, hq, hl, h9⟩ := walk25
  rw [show (ByteArray.mk #[91, 69, 118, 101, 110, 116, 115, 93, 10, 70, 111, 114, 109, 97, 116, 58, 32, 83, 116, 97, 114, 116, 44, 32, 69, 110, 100, 44, 32, 84, 101, 120, 116, 10, 68, 105, 97, 108, 111, 103, 117, 101, 58, 32, 48, 58, 48, 48, 58, 48, 49, 46, 48, 48, 44, 48, 58, 48, 48, 58, 48, 50, 46, 48, 48, 44, 97, 44, 98]).data.toList = t25 from rfl, hq] at hr
  rcases hr with ⟨ps, h, hv, _, rfl, rfl⟩ | ⟨n, h, _⟩
  · injection h with h
    subst h
    rcases hv with ⟨h, _⟩ | ⟨bk, c, _, rfl, h2, h3, h4⟩
    · subst h; simp at hl
    · obtain ⟨a0, a1, a2⟩ := Rows3.at_ pcV_len h4 h9 rfl
      rw [hl] at h2 ⊢
      exact ⟨bk, c, rfl, h2, h3, a0, a1, a2, hb⟩
  · cases h
theorem Decl25 (w : World) :
    Calls Tryd.prog 24 #[.string ⟨#[67, 104, 97, 114, 115, 101, 116, 58, 32, 120]⟩] w fun e w' => e = .returned (.string ⟨#[120]⟩) ∧ Below w.heap.size w w' := by
  have h := SDeclared_any ⟨#[67, 104, 97, 114, 115, 101, 116, 58, 32, 120]⟩ (by decide) w
  rw [show shL (linesL (ByteArray.mk #[67, 104, 97, 114, 115, 101, 116, 58, 32, 120]).data.toList) = [120] by decide +kernel] at h
  exact h
theorem Awake25 (w : World) (hm : ML w) :
    Calls Tryd.prog 10 #[] w fun e w' => e = .returned (.bool true) ∧ Below w.heap.size w w' := by
  have hpa := Parse25 w hm
  have hde := fun w => Decl25 w
  go_enter Tryd.func10, Tryd.ntmps10
  go_wp2_with (first | (go_at_call 5; refine hpa.mono ?_; rintro e w1 ⟨bk, c, rfl, hc3, hbk, a3, a4, a5, hb1⟩; clear hpa) | (go_at_call 22; refine (Awake22 _).mono ?_; rintro e w3 ⟨rfl, hb3⟩; have b3 := old2 hb3 hbk a3; have b4 := old2 hb3 hbk a4; have b5 := old2 hb3 hbk a5; obtain ⟨p0, p1, _, _, hz3⟩ := box2 (by simpa using hb3)) | (go_at_call 23; refine (Bad0 _).mono ?_; rintro e w4 ⟨rfl, hb4⟩) | (go_at_call 24; refine (hde _).mono ?_; rintro e w5 ⟨rfl, hb5⟩))
  go_ret
  exact ⟨rfl, bch (bch (bch hb1 (below_a1 hb3)) hb4) hb5⟩
theorem awake25 (w : World) (hm : ML w) :
    Calls Tryd.prog 4 #[] w fun e w' => e = .returned (.bool true) ∧ Below w.heap.size w w' := by
  go_enter Tryd.func4, Tryd.ntmps4
  go_wp2_with (go_at_call 10; refine (Awake25 _ hm).mono ?_; rintro e w1 ⟨rfl, hb1⟩)
  go_ret
  exact ⟨rfl, hb1⟩
theorem aw25 {w : World} (hm : ML w) (W : World) (hb : Below w.heap.size w W) : Calls Tryd.prog 4 #[] W fun e w' => e = .returned (.bool true) ∧ Below W.heap.size W w' := awake25 W (ML_below hm hb)
end Go.Proofs.YtlcgfgbdehdndaaDoor
