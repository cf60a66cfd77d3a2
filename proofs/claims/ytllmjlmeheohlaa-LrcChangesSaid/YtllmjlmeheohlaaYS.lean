/- Contract of the document's Parse (chapter 26): it tells what lrc.Parse tells; condition: at most 40,000 bytes. -/
import Derived.Test.YtllmjlmeheohlaaYR
set_option maxRecDepth 100000
set_option maxHeartbeats 4000000
namespace Go.Proofs.Ytllmjlmeheohlaa
open Go Go.RowKit

/-- How many pieces the lines give at the most. -/
def wt : List Ln → Nat
  | [] => 0
  | x :: l => 4 * x.1.length + 4 + (endP x.2.1).length + wt l
theorem endP_len (e : List UInt8) : (endP e).length ≤ 1 ∧ (endP e).length ≤ e.length := by
  unfold endP
  split
  · simp
  · rename_i h; cases e with | nil => exact absurd rfl h | cons _ _ => simp
theorem wt_le : ∀ (f : Nat) (r : List UInt8) (i : Nat), wt (linesF f r i) ≤ 9 * r.length
  | 0, r, i => by simp [linesF, wt]
  | f + 1, r, i => by
    unfold linesF
    split
    · simp [wt]
    · rename_i h
      have h1 := eol_pos h
      have h2 := ln_le r
      have h3 := endP_len (lnE r)
      have h4 := wt_le f (r.drop ((lnT r).length + (lnE r).length)) (i + ((lnT r).length + (lnE r).length))
      rw [List.length_drop] at h4
      simp only [wt]
      omega
theorem wt_walk (f : List UInt8 → Option (List Pc)) (hf : ∀ s ps, f s = some ps → ps.length ≤ 4 * s.length + 4) : ∀ (l : List Ln) (ps : List Pc), walkL f l = .inl ps → ps.length ≤ wt l
  | [], ps, h => by simp [walkL] at h; subst h; simp
  | x :: l, ps, h => by
    cases hx : f x.1 with
    | none => rw [walkL_none hx] at h; cases h
    | some qs =>
      rw [walkL_some hx] at h
      have h1 := hf _ _ hx
      cases hw : walkL f l with
      | inr a => rw [hw] at h; cases h
      | inl rs =>
        rw [hw] at h
        have h2 := wt_walk f hf l rs hw
        injection h with h
        subst h
        simp only [wt, List.length_append]
        omega
theorem wt_drop : ∀ (l : List Ln) (k : Nat) (x : Ln), l[k]? = some x → l.drop k = x :: l.drop (k + 1)
  | [], k, x, h => by simp at h
  | y :: l, 0, x, h => by simp at h; subst h; rfl
  | y :: l, k + 1, x, h => by simpa using wt_drop l k x (by simpa using h)
theorem wt_len : ∀ (l : List Ln), 4 * l.length ≤ wt l
  | [] => by simp [wt]
  | x :: l => by have := wt_len l; simp only [wt, List.length_cons]; omega
theorem wt_dle : ∀ (l : List Ln) (k : Nat), wt (l.drop k) ≤ wt l
  | [], k => by simp
  | x :: l, 0 => by simp
  | x :: l, k + 1 => by have := wt_dle l k; simp only [wt, List.drop_succ_cons]; omega
theorem rowsG {α : Type} {f : α → List Value} {v : Value} {ps : List α} {w : World} (hv : Rows3 f w v ps) : ∃ (A : Option Addr) (c : Nat), v = .slice A ps.length c ∧ ps.length ≤ c ∧ (0 < ps.length → ∃ bk, A = some ⟨bk, 0, none⟩ ∧ bk < w.heap.size ∧ ∀ j u, (ps.flatMap f)[j]? = some u → w.cell? ⟨bk, j, none⟩ = some u) := by
  rcases hv with ⟨rfl, rfl⟩ | ⟨bk, c, h0, rfl, h2, h3, h4⟩
  · exact ⟨none, 0, rfl, by simp, fun h => by simp at h⟩
  · exact ⟨_, c, rfl, h2, fun _ => ⟨bk, rfl, h3, h4⟩⟩
def RwRes (r : List Pc ⊕ Nat) (w' : World) (v : Value) (a : Int) : Prop :=
  (∃ ps, r = .inl ps ∧ Rows3 pcV w' v ps ∧ a = -1) ∨ (∃ n : Nat, r = .inr n ∧ v = .slice none 0 0 ∧ a = n)
def RwPost (t : List UInt8) (w0 : World) (e : Ending) (w' : World) : Prop :=
  ∃ v a, e = .returned (.tuple #[v, .int .i64 a]) ∧ RwRes (walkL lrcL (linesL t)) w' v a ∧ Below w0.heap.size w0 w'
def RwRel (L : List Ln) (w0 : World) (v i : Value) (wr : World) : Prop := ∃ (acc : List Pc) (k : Nat), k ≤ L.length ∧ i = .int .i64 k ∧ walkL lrcL L = pre acc (walkL lrcL (L.drop k)) ∧ acc.length + wt (L.drop k) ≤ wt L ∧ wr.ownsRow w0.heap.size 55 3 v acc.length (acc.flatMap pcV) ∧ (acc = [] → v = .slice none 0 0) ∧ Below w0.heap.size w0 wr
theorem RParse_any (s : ByteArray) (hs : s.size ≤ 40000) (w : World) :
    Calls Try.prog 20 #[.string s] w (RwPost s.data.toList w) := by
  generalize hP : RwPost s.data.toList w = P at *
  obtain ⟨i0, hi, iz0, iz1, iz2⟩ := info_parts rpiece_info
  have hl0 := len_data s
  have hwt : wt (linesL s.data.toList) ≤ 9 * s.size := by have := wt_le s.data.toList.length s.data.toList 0; unfold linesL; omega
  have hln := wt_len (linesL s.data.toList)
  have hrl := fun w => RLines_any s (by omega) w
  unfold LsPost at hrl
  have hfin : ∀ v a w', RwRes (walkL lrcL (linesL s.data.toList)) w' v a → Below w.heap.size w w' → P (.returned (.tuple #[v, .int .i64 a])) w' := fun v a w' h1 h2 => by rw [← hP]; exact ⟨v, a, rfl, h1, h2⟩
  generalize linesL s.data.toList = L at *
  have Hfin := Lib.hid hfin
  clear hfin
  go_enter Try.func20, Try.ntmps20
  go_wp2_with (go_at_call 16; refine (hrl _).mono ?_; rintro e w0 ⟨v, rfl, hr, hb0⟩; obtain ⟨A, c, rfl, hc, hA⟩ := rowsG hr; have HA := Lib.hid hA; clear hA)
  go_loopw [4, 6] (fun v i wr => RwRel L w0 v i wr) (fun _ i _ => L.length - (intOf i).toNat)
  case atStart => exact ⟨[], 0, by omega, rfl, (pre_nil _).symm, by simp, ⟨rfl, .inl ⟨rfl, rfl⟩⟩, fun _ => rfl, Below.refl _ _⟩
  case round =>
    obtain ⟨acc, k, hk, rfl, hl, ha, hown, h0, hb⟩ := hrel
    have HB0 : Below w.heap.size w wr := bch hb0 hb
    by_cases hlt : k < L.length
    · obtain ⟨bk, rfl, hbk, hcell⟩ := HA.out (by omega)
      obtain ⟨⟨T, E, q⟩, hx⟩ : ∃ x, L[k]? = some x := ⟨L[k], List.getElem?_eq_getElem hlt⟩
      obtain ⟨c0, c1, c2⟩ := Rows3.at_ (f := lnV) (fun _ => rfl) hcell hx rfl
      have hd := wt_drop L k _ hx
      have hdl := wt_dle L k
      rw [hd] at hl ha hdl
      simp only [wt] at ha hdl
      have HC : Hid (∀ w', Below w0.heap.size w0 w' → w'.cell? ⟨bk, k * 3, none⟩ = some (.string (B T)) ∧ w'.cell? ⟨bk, k * 3 + 1, none⟩ = some (.string (B E)) ∧ w'.cell? ⟨bk, k * 3 + 2, none⟩ = some (.int .i64 q)) := Lib.hid (fun w' hb => ⟨(hb.cell (p := ⟨bk, k * 3, none⟩) hbk).trans c0, (hb.cell (p := ⟨bk, k * 3 + 1, none⟩) hbk).trans c1, (hb.cell (p := ⟨bk, k * 3 + 2, none⟩) hbk).trans c2⟩)
      obtain ⟨d0, d1, d2⟩ := HC.out _ hb
      have hsT := B_size T
      have hcl := fun w => RPieces_any (B T) (by omega) w
      rw [B_data] at hcl
      unfold PcPost at hcl
      have hE1 := endP_len E
      clear c0 c1 c2 hcell hd hdl
      cases hfT : lrcL T with
      | none =>
        have Hr := Lib.hid (show walkL lrcL L = .inr q by rw [hl, walkL_none hfT]; rfl)
        have hcl2 : ∀ w, Calls Try.prog 11 #[.string (B T)] w fun e w' => e = .returned (.tuple #[.slice none 0 0, .bool false]) ∧ Below w.heap.size w w' := fun w => (hcl w).mono fun e w' ⟨v, h1, h2, h3⟩ => by
          rw [hfT] at h1 h2
          rcases h2 with ⟨_, rfl⟩ | ⟨_, _, h4, _⟩
          · exact ⟨h1, h3⟩
          · exact absurd rfl h4
        clear hcl hfT hl hown h0
        go_wp2_with (first | (go_at_call 11; refine (hcl2 _).mono ?_; rintro e w1 ⟨rfl, hb1⟩; have HB1 := bch hb hb1; obtain ⟨e0, e1, e2⟩ := HC.out _ HB1))
        go_quiet (fail)
        go_wp2_with fail
        show P (.returned (.tuple #[.slice none 0 0, .int .i64 q])) _
        exact Hfin.out _ _ _ (.inr ⟨q, Hr.out, rfl, rfl⟩) (bch hb0 (below_drewN HB1 _))
      | some ps =>
        have hlp := lrcL_len _ _ hfT
        have Hy := Lib.hid (show walkL lrcL L = pre (acc ++ (ps ++ endP E)) (walkL lrcL (L.drop (k + 1))) by rw [hl, walkL_some hfT, pre_pre])
        clear hl
        cases ps with
        | nil =>
          have hcl2 : ∀ w, Calls Try.prog 11 #[.string (B T)] w fun e w' => e = .returned (.tuple #[.slice none 0 0, .bool true]) ∧ Below w.heap.size w w' := fun w => (hcl w).mono fun e w' ⟨v, h1, h2, h3⟩ => by
            rw [hfT] at h1 h2
            rcases h2 with ⟨_, rfl⟩ | ⟨_, _, h4, _⟩
            · exact ⟨h1, h3⟩
            · exact absurd rfl h4
          clear hcl hfT
          by_cases hE : E = []
          · have hEi : (B E).toList.isEmpty = true := by rw [ByteArray.toList_eq, B_data]; rw [hE]; rfl
            have hEp : endP E = [] := by rw [hE]; rfl
            clear hE
            rw [hEp] at Hy ha
            go_wp2_with (first | (go_at_call 11; refine (hcl2 _).mono ?_; rintro e w1 ⟨rfl, hb1⟩; have HB1 := bch hb hb1; have hz1 := HB1.size; obtain ⟨e0, e1, e2⟩ := HC.out _ HB1; have hown1 := own_below hown hb1) | (at_builtin; refine wpList_append_own_none rfl _ _ 26 rfl w0.heap.size 55 i0 3 Try.underlying26 hi _ acc.length _ rfl hown1 rfl ?_))
            have Hown1 := Lib.hid hown1
            clear hown1 hown
            go_roundw
            case rel => exact ⟨acc, k + 1, by omega, by simp, by simpa using Hy.out, by simp at ha; omega, Hown1.out, h0, HB1⟩
            case measure => simp [intOf]; omega
          · have hEi : (B E).toList.isEmpty = false := by rw [ByteArray.toList_eq, B_data]; cases E with | nil => exact absurd rfl hE | cons _ _ => rfl
            have hEp : endP E = [mk E] := by unfold endP; rw [if_neg hE]
            clear hE
            rw [hEp] at Hy ha
            simp only [List.length_singleton] at ha
            go_wp2_with (first | (go_at_call 11; refine (hcl2 _).mono ?_; rintro e w1 ⟨rfl, hb1⟩; have HB1 := bch hb hb1; have hz1 := HB1.size; obtain ⟨e0, e1, e2⟩ := HC.out _ HB1; have hown1 := own_below hown hb1) | (at_builtin; refine wpList_append_own_none rfl _ _ 26 rfl w0.heap.size 55 i0 3 Try.underlying26 hi _ acc.length _ rfl hown1 rfl ?_))
            go_wp2_with (go_at_call 33; refine (Put_any w0.heap.size _ (acc) (B E) _ hown1 (by omega) (by first | omega | (simp; omega))).mono ?_; rintro e w4 ⟨v4, rfl, hown4, hb4⟩; have HB4 := HB1.trans (hb4 _ (Nat.le_refl _)); have Hown4 := Lib.hid hown4; clear hown4)
            rw [B_data] at Hown4
            go_wp2_with fail
            go_roundw
            case rel =>
              refine ⟨acc ++ [mk E], k + 1, by omega, by simp, by simpa using Hy.out, by simp; omega, ?_, fun h => by simp at h, HB4⟩
              have := Hown4.out; rw [List.length_append]; exact this
            case measure => simp [intOf]; omega
        | cons p ps =>
          have hcl2 : ∀ w, Calls Try.prog 11 #[.string (B T)] w fun e w' => ∃ bk c : Nat, e = .returned (.tuple #[.slice (some ⟨bk, 0, none⟩) (ps.length + 1) c, .bool true]) ∧ ps.length + 1 ≤ c ∧ bk < w'.heap.size ∧ Hid (∀ j u, ((p :: ps).flatMap pcV)[j]? = some u → w'.cell? ⟨bk, j, none⟩ = some u) ∧ Below w.heap.size w w' := fun w => (hcl w).mono fun e w' ⟨v, h1, h2, h3⟩ => by
            rw [hfT] at h1 h2
            rcases h2 with ⟨h4, _⟩ | ⟨bk, c, _, h5, h6, h7, h8⟩
            · simp at h4
            · subst h5
              exact ⟨bk, c, h1, h6, h7, Lib.hid h8, h3⟩
          clear hcl hfT
          by_cases hE : E = []
          · have hEi : (B E).toList.isEmpty = true := by rw [ByteArray.toList_eq, B_data]; rw [hE]; rfl
            have hEp : endP E = [] := by rw [hE]; rfl
            clear hE
            rw [hEp] at Hy ha
            simp only [List.length_nil, List.length_cons] at ha hlp
            go_wp2_with (first | (go_at_call 11; refine (hcl2 _).mono ?_; rintro e w1 ⟨bp, cp, rfl, hcp, hbp, hcells, hb1⟩; have HB1 := bch hb hb1; have hz1 := HB1.size; obtain ⟨e0, e1, e2⟩ := HC.out _ HB1; have hown1 := own_below hown hb1) | (at_builtin; refine wpList_append_own _ rfl _ _ 26 rfl w0.heap.size 55 i0 _ 3 40 Try.underlying26 hi iz0 iz1 iz2 rfl (by decide) _ acc.length _ rfl hown1 ⟨bp, 0, none⟩ (ps.length + 1) cp ((p :: ps).flatMap pcV) rfl ?c0 ?c1 ?c2 ?c3 ?c4 ?c5 ?_))
            case c0 => exact flat3 pcV pcV_len (p :: ps)
            case c1 => intro j u hu; rw [show (⟨bp, 0, none⟩ : Addr).add j = ⟨bp, j, none⟩ by unfold Addr.add; split <;> simp_all]; exact hcells.out j u hu
            case c2 => exact pcV_one _
            case c3 => unfold maxLen; omega
            case c4 => omega
            case c5 => omega
            intro v3 w3 hown3 hg3 h03
            have HB3 := below_grownOwn HB1 hown1 hg3 (by omega) (Nat.le_refl _)
            have hz3 := HB3.size
            obtain ⟨f0, f1, f2⟩ := HC.out _ HB3
            have Hown3 := Lib.hid hown3
            clear hown3 h03 hown1 hg3 hown
            go_wp2_with fail
            go_roundw
            case rel =>
              refine ⟨acc ++ (p :: ps), k + 1, by omega, by simp, by simpa using Hy.out, by simp; omega, ?_, fun h => by simp at h, HB3⟩
              have := Hown3.out; rw [List.length_append, List.flatMap_append]; exact this
            case measure => simp [intOf]; omega
          · have hEi : (B E).toList.isEmpty = false := by rw [ByteArray.toList_eq, B_data]; cases E with | nil => exact absurd rfl hE | cons _ _ => rfl
            have hEp : endP E = [mk E] := by unfold endP; rw [if_neg hE]
            clear hE
            rw [hEp] at Hy ha
            simp only [List.length_singleton, List.length_cons] at ha hlp
            go_wp2_with (first | (go_at_call 11; refine (hcl2 _).mono ?_; rintro e w1 ⟨bp, cp, rfl, hcp, hbp, hcells, hb1⟩; have HB1 := bch hb hb1; have hz1 := HB1.size; obtain ⟨e0, e1, e2⟩ := HC.out _ HB1; have hown1 := own_below hown hb1) | (at_builtin; refine wpList_append_own _ rfl _ _ 26 rfl w0.heap.size 55 i0 _ 3 40 Try.underlying26 hi iz0 iz1 iz2 rfl (by decide) _ acc.length _ rfl hown1 ⟨bp, 0, none⟩ (ps.length + 1) cp ((p :: ps).flatMap pcV) rfl ?c0 ?c1 ?c2 ?c3 ?c4 ?c5 ?_))
            case c0 => exact flat3 pcV pcV_len (p :: ps)
            case c1 => intro j u hu; rw [show (⟨bp, 0, none⟩ : Addr).add j = ⟨bp, j, none⟩ by unfold Addr.add; split <;> simp_all]; exact hcells.out j u hu
            case c2 => exact pcV_one _
            case c3 => unfold maxLen; omega
            case c4 => omega
            case c5 => omega
            intro v3 w3 hown3 hg3 h03
            have HB3 := below_grownOwn HB1 hown1 hg3 (by omega) (Nat.le_refl _)
            have hz3 := HB3.size
            obtain ⟨f0, f1, f2⟩ := HC.out _ HB3
            have Hown3 := Lib.hid hown3
            clear hown3 h03 hown1 hg3 hown
            have hown3' : w3.ownsRow w0.heap.size 55 3 v3 (acc ++ (p :: ps)).length ((acc ++ (p :: ps)).flatMap pcV) := by
              have := Hown3.out; rw [List.length_append, List.flatMap_append]; exact this
            have Hown3' := Lib.hid hown3'
            clear hown3'
            go_wp2_with (go_at_call 33; refine (Put_any w0.heap.size _ (acc ++ (p :: ps)) (B E) _ Hown3'.out (by omega) (by first | omega | (simp; omega))).mono ?_; rintro e w4 ⟨v4, rfl, hown4, hb4⟩; have HB4 := HB3.trans (hb4 _ (Nat.le_refl _)); have Hown4 := Lib.hid hown4; clear hown4)
            rw [B_data] at Hown4
            go_wp2_with fail
            go_roundw
            case rel =>
              refine ⟨acc ++ (p :: ps) ++ [mk E], k + 1, by omega, by simp, by simpa using Hy.out, by simp; omega, ?_, fun h => by simp at h, HB4⟩
              have := Hown4.out; rw [List.length_append]; exact this
            case measure => simp [intOf]; omega
    · have hk2 : k = L.length := by omega
      have he : walkL lrcL L = .inl acc := by rw [hl, List.drop_of_length_le (by omega)]; simp [walkL, pre]
      have He := Lib.hid he
      have Hown := Lib.hid hown
      have H0 := Lib.hid h0
      clear hl he hown h0
      go_wp2_with fail
      show P (.returned (.tuple #[_, .int .i64 (-1)])) _
      exact Hfin.out _ _ _ (.inl ⟨acc, He.out, Rows3.of_own rfl Hown.out H0.out, rfl⟩) HB0
end Go.Proofs.Ytllmjlmeheohlaa
