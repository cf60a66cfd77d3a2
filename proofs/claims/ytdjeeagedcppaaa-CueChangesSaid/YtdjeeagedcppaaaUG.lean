/- Contract of line.Walk over diacritic/cue.Pieces; condition: at most 100,000 bytes. -/
import Derived.Test.YtdjeeagedcppaaaUF
set_option maxRecDepth 100000
set_option maxHeartbeats 4000000
namespace Go.Proofs.Ytdjeeagedcppaaa
open Go Go.RowKit

theorem Walk_cue (f : List UInt8 → Option (List Pc)) (K : World → Prop) (hK : ∀ w w', K w → Below w.heap.size w w' → K w') (hf : ∀ (s : List UInt8) (w : World), s.length ≤ 100000 → K w → Calls Try.prog 13 #[.string (B s)] w (PcPost f s w)) (hlen : ∀ s ps, f s = some ps → ps.length ≤ 4 * s.length + 4)
    (s : ByteArray) (hs : s.size ≤ 100000) (w : World) (hKw : K w) :
    Calls Try.prog 12 #[.string s, .func (.func 13) #[] #[]] w (WkPost f s.data.toList w) := by
  generalize hP : WkPost f s.data.toList w = P at *
  obtain ⟨i0, hi, iz0, iz1, iz2⟩ := info_parts piece_info
  have hl0 := len_data s
  go_enter Try.func12, Try.ntmps12
  go_wp2_with fail
  go_loopw [6, 7] (fun v i wr => WkRel f s.data.toList w v i wr) (fun _ i _ => s.size - (intOf i).toNat)
  case atStart => exact ⟨[], 0, s.data.toList.length, by omega, rfl, (pre_nil _).symm, by omega, by simp, ⟨rfl, .inl ⟨rfl, rfl⟩⟩, fun _ => rfl, Below.refl _ _⟩
  case round =>
    obtain ⟨acc, k, fu, hk, rfl, hl, hfu, ha, hown, h0, hb⟩ := hrel
    rw [hl0] at hk hfu
    obtain ⟨fc0, fc1, ff0, ff1, hz⟩ := box2 hb
    by_cases hlt : k < s.size
    · have hnx := fun w => Next_any s k (by omega) (by omega) w
      unfold NxPost at hnx
      have hrl : (s.data.toList.drop k).length = s.size - k := by rw [List.length_drop, hl0]
      have hne : s.data.toList.drop k ≠ [] := by intro e; rw [e] at hrl; simp at hrl; omega
      have hpos := eol_pos hne
      have hle := ln_le (s.data.toList.drop k)
      obtain ⟨fu', rfl⟩ : ∃ fu', fu = fu' + 1 := ⟨fu - 1, by omega⟩
      obtain ⟨hn, hy⟩ := wk_step (by omega) hl
      have s1 := B_size (lnT (s.data.toList.drop k))
      have s2 := B_size (lnE (s.data.toList.drop k))
      rw [hrl] at hle
      have hKr : K wr := by
        have h1 : Below w.heap.size w wr := below_a1 (by simpa using hb)
        exact hK _ _ hKw h1
      clear hl hne hrl
      generalize hT : lnT (s.data.toList.drop k) = T at *
      generalize lnE (s.data.toList.drop k) = E at *
      have hcl := fun w h => hf T w (by omega) h
      clear hT
      cases hfT : f T with
      | none =>
        have Hr := Lib.hid (hn hfT)
        have hcl2 : ∀ w, K w → Calls Try.prog 13 #[.string (B T)] w fun e w' => e = .returned (.tuple #[.slice none 0 0, .bool false]) ∧ Below w.heap.size w w' := fun w h => (hcl w h).mono fun e w' ⟨v, h1, h2, h3⟩ => by
          rw [hfT] at h1 h2
          rcases h2 with ⟨_, rfl⟩ | ⟨_, _, h4, _⟩
          · exact ⟨h1, h3⟩
          · exact absurd rfl h4
        clear hn hy hcl hfT hown h0
        go_wp2_with (first | (go_at_call 19; refine (hnx _).mono ?_; rintro e w1 ⟨rfl, hb1⟩; have hK1 := hK _ _ hKr hb1; have hz1 := hb1.size; have HB1 := hb.trans (hb1.mono (B' := w.heap.size + 1) (by omega))) | (go_at_call 13; refine (hcl2 _ (hK _ _ hK1 ((Below.refl _ _).alloc (Nat.le_refl _) _))).mono ?_; rintro e w2 ⟨rfl, hb2⟩; have hz2 := sz_a1 hb2; have HB2 := (HB1.alloc (by omega) _).trans (hb2.mono (by simp; omega)); obtain ⟨gc0, gc1, gf0, gf1, hlt2⟩ := box2 HB2))
        refine bodyPost_ret (v := .tuple #[.slice none 0 0, .agg #[.int .i64 1, .int .i64 k]]) (by simp [results, Try.results12, go_sem, gc0, gc1]) rfl ?_
        rw [← hP]
        refine ⟨_, 1, k, rfl, .inr ⟨k, Hr.out, rfl, rfl, rfl⟩, ?_⟩
        exact ((((Below.refl _ w).alloc (Nat.le_refl _) _).trans (HB2.mono (by omega))).setCell (Nat.le_refl _) _).setCell (Nat.le_refl _) _
      | some ps =>
        have hlp := hlen _ _ hfT
        have Hy := Lib.hid (hy ps hfT)
        clear hn hy
        cases ps with
        | nil =>
          have hcl2 : ∀ w, K w → Calls Try.prog 13 #[.string (B T)] w fun e w' => e = .returned (.tuple #[.slice none 0 0, .bool true]) ∧ Below w.heap.size w w' := fun w h => (hcl w h).mono fun e w' ⟨v, h1, h2, h3⟩ => by
            rw [hfT] at h1 h2
            rcases h2 with ⟨_, rfl⟩ | ⟨_, _, h4, _⟩
            · exact ⟨h1, h3⟩
            · exact absurd rfl h4
          clear hcl hfT
          by_cases hE : E = []
          · have hEi : (B E).toList.isEmpty = true := by rw [ByteArray.toList_eq, B_data]; rw [hE]; rfl
            have HE := Lib.hid hE
            clear hE
            go_wp2_with (first | (go_at_call 19; refine (hnx _).mono ?_; rintro e w1 ⟨rfl, hb1⟩; have hK1 := hK _ _ hKr hb1; have hz1 := hb1.size; have HB1 := hb.trans (hb1.mono (B' := w.heap.size + 1) (by omega))) | (go_at_call 13; refine (hcl2 _ (hK _ _ hK1 ((Below.refl _ _).alloc (Nat.le_refl _) _))).mono ?_; rintro e w2 ⟨rfl, hb2⟩; have hz2 := sz_a1 hb2; have HB2 := (HB1.alloc (by omega) _).trans (hb2.mono (by simp; omega)); have hown2 := own_below ((own_below hown hb1).alloc _) hb2; have hbx := heap_below (heap_alloc_new w1 (.cells #[.string (B T), .string (B E), .int .i64 k] 42)) hb2; obtain ⟨bc0, bc1, bc2⟩ := cells3 hbx) | (at_builtin; refine wpList_append_own_none rfl _ _ 23 rfl (w.heap.size + 1) 30 i0 3 Try.underlying23 hi _ acc.length _ rfl hown2 rfl ?_))
            have hbx3 := hbx
            obtain ⟨cc0, cc1, cc2⟩ := cells3 hbx3
            have Hown3 := Lib.hid hown2
            clear hown2 hbx
            go_roundw
            case rel =>
              refine ⟨acc, k + (T.length + E.length), fu', by omega, by simp, ?_, by omega, ?_, ?_, ?_, HB2⟩
              · rw [Hy.out]; rw [HE.out]; simp [endP]
              · simp at hlp ⊢; omega
              · exact Hown3.out
              · exact h0
            case measure => simp [intOf]; omega
          · have hEi : (B E).toList.isEmpty = false := by rw [ByteArray.toList_eq, B_data]; cases E with | nil => exact absurd rfl hE | cons _ _ => rfl
            have HE := Lib.hid hE
            clear hE
            go_wp2_with (first | (go_at_call 19; refine (hnx _).mono ?_; rintro e w1 ⟨rfl, hb1⟩; have hK1 := hK _ _ hKr hb1; have hz1 := hb1.size; have HB1 := hb.trans (hb1.mono (B' := w.heap.size + 1) (by omega))) | (go_at_call 13; refine (hcl2 _ (hK _ _ hK1 ((Below.refl _ _).alloc (Nat.le_refl _) _))).mono ?_; rintro e w2 ⟨rfl, hb2⟩; have hz2 := sz_a1 hb2; have HB2 := (HB1.alloc (by omega) _).trans (hb2.mono (by simp; omega)); have hown2 := own_below ((own_below hown hb1).alloc _) hb2; have hbx := heap_below (heap_alloc_new w1 (.cells #[.string (B T), .string (B E), .int .i64 k] 42)) hb2; obtain ⟨bc0, bc1, bc2⟩ := cells3 hbx) | (at_builtin; refine wpList_append_own_none rfl _ _ 23 rfl (w.heap.size + 1) 30 i0 3 Try.underlying23 hi _ acc.length _ rfl hown2 rfl ?_))
            have hbx3 := hbx
            obtain ⟨cc0, cc1, cc2⟩ := cells3 hbx3
            have Hown3 := Lib.hid hown2
            clear hown2 hbx
            have hmk := fun w (hw : ∀ (j : Nat) x, [E][j]? = some x → w.cell? ⟨w2.heap.size, j, none⟩ = some (.string (B x))) => Mark_any w2.heap.size 1 [E] w hw (by simp) (by simp) (by simp; omega) (by simp)
            have hnw := Lib.hid (one_new w2 E)
            simp only [List.flatten_singleton, List.length_singleton] at hmk
            go_wp2_with (first | (go_at_call 20; refine (hmk _ hnw.out).mono ?_; rintro e w4 ⟨rfl, hb4⟩; have hz4 := sz_a1 hb4; have hown4 := own_below (Hown3.out.alloc _) hb4; have HB4 := (HB2.alloc (by omega) _).trans (hb4.mono (by simp; omega)); have hbx4 := heap_below (heap_more hbx3 _) hb4) | (at_builtin; refine wpList_append_own _ rfl _ _ 23 rfl (w.heap.size + 1) 30 i0 _ 3 40 Try.underlying23 hi iz0 iz1 iz2 rfl (by decide) _ _ _ rfl (hown4.alloc _) ⟨w4.heap.size, 0, none⟩ 1 1 (pcV (mk E)) rfl rfl ?d1 ?d2 ?d3 ?d4 ?d5 ?_))
            case d1 => exact three_new w4 _ _ _ _
            case d2 => intro u hu; simp only [pcV, List.mem_cons, List.not_mem_nil, or_false] at hu; rcases hu with rfl | rfl | rfl <;> rfl
            case d3 => unfold maxLen; omega
            case d4 => omega
            case d5 => simp; omega
            intro v5 w5 hown5 hg5 h05
            have hbx5 := heap_grown (heap_more hbx4 _) hg5 (own_ne2 hown4 hbx4)
            obtain ⟨dc0, dc1, dc2⟩ := cells3 hbx5
            have HB5 := below_grownOwn (HB4.alloc (by omega) _) (hown4.alloc _) hg5 (by simp; omega) (Nat.le_refl _)
            have Hown5 := Lib.hid hown5
            clear hown5 h05 hown4 hg5 hbx4 hbx5 hbx3 cc0 cc1 cc2 bc0 bc1 bc2
            go_wp2_with fail
            go_roundw
            case rel =>
              refine ⟨acc ++ [mk E], k + (T.length + E.length), fu', by omega, by simp, ?_, by omega, ?_, ?_, ?_, HB5⟩
              · rw [Hy.out]; simp [endP, HE.out]
              · simp at hlp ⊢; omega
              · have := Hown5.out; simp only [List.length_append, List.flatMap_append, List.length_cons, List.length_nil, List.flatMap_cons, List.flatMap_nil, List.append_nil, List.append_assoc, Nat.zero_add] at this ⊢; exact this
              · intro h; simp at h
            case measure => simp [intOf]; omega
        | cons p ps =>
          have hcl2 : ∀ w, K w → Calls Try.prog 13 #[.string (B T)] w fun e w' => ∃ bk c : Nat, e = .returned (.tuple #[.slice (some ⟨bk, 0, none⟩) (ps.length + 1) c, .bool true]) ∧ ps.length + 1 ≤ c ∧ bk < w'.heap.size ∧ Hid (∀ j u, ((p :: ps).flatMap pcV)[j]? = some u → w'.cell? ⟨bk, j, none⟩ = some u) ∧ Below w.heap.size w w' := fun w h => (hcl w h).mono fun e w' ⟨v, h1, h2, h3⟩ => by
            rw [hfT] at h1 h2
            rcases h2 with ⟨h4, _⟩ | ⟨bk, c, _, h5, h6, h7, h8⟩
            · simp at h4
            · subst h5
              exact ⟨bk, c, h1, h6, h7, Lib.hid h8, h3⟩
          clear hcl hfT
          by_cases hE : E = []
          · have hEi : (B E).toList.isEmpty = true := by rw [ByteArray.toList_eq, B_data]; rw [hE]; rfl
            have HE := Lib.hid hE
            clear hE
            go_wp2_with (first | (go_at_call 19; refine (hnx _).mono ?_; rintro e w1 ⟨rfl, hb1⟩; have hK1 := hK _ _ hKr hb1; have hz1 := hb1.size; have HB1 := hb.trans (hb1.mono (B' := w.heap.size + 1) (by omega))) | (go_at_call 13; refine (hcl2 _ (hK _ _ hK1 ((Below.refl _ _).alloc (Nat.le_refl _) _))).mono ?_; rintro e w2 ⟨bk, c, rfl, hc, hbk, hcells, hb2⟩; have hz2 := sz_a1 hb2; have HB2 := (HB1.alloc (by omega) _).trans (hb2.mono (by simp; omega)); have hown2 := own_below ((own_below hown hb1).alloc _) hb2; have hbx := heap_below (heap_alloc_new w1 (.cells #[.string (B T), .string (B E), .int .i64 k] 42)) hb2; obtain ⟨bc0, bc1, bc2⟩ := cells3 hbx) | (at_builtin; refine wpList_append_own _ rfl _ _ 23 rfl (w.heap.size + 1) 30 i0 _ 3 40 Try.underlying23 hi iz0 iz1 iz2 rfl (by decide) _ acc.length _ rfl hown2 ⟨bk, 0, none⟩ (ps.length + 1) c ((p :: ps).flatMap pcV) rfl ?c0 ?c1 ?c2 ?c3 ?c4 ?c5 ?_))
            case c0 => exact flat3 pcV pcV_len (p :: ps)
            case c1 => intro j u hu; rw [show (⟨bk, 0, none⟩ : Addr).add j = ⟨bk, j, none⟩ by unfold Addr.add; split <;> simp_all]; exact hcells.out j u hu
            case c2 => exact pcV_one _
            case c3 => unfold maxLen; simp at hlp ⊢; omega
            case c4 => simp at hlp ⊢; omega
            case c5 => omega
            intro v3 w3 hown3 hg3 h03
            have hbx3 := heap_grown hbx hg3 (own_ne2 hown2 hbx)
            obtain ⟨cc0, cc1, cc2⟩ := cells3 hbx3
            have HB3 := below_grownOwn HB2 hown2 hg3 (by omega) (Nat.le_refl _)
            have hz3 := hg3.size
            have Hown3 := Lib.hid hown3
            clear hown3 h03 hown2 hg3 hbx
            go_wp2_with fail
            go_roundw
            case rel =>
              refine ⟨acc ++ (p :: ps), k + (T.length + E.length), fu', by omega, by simp, ?_, by omega, ?_, ?_, ?_, HB3⟩
              · rw [Hy.out]; rw [HE.out]; simp [endP]
              · simp at hlp ⊢; omega
              · have := Hown3.out; rw [List.length_append, List.flatMap_append]; exact this
              · intro h; simp at h
            case measure => simp [intOf]; omega
          · have hEi : (B E).toList.isEmpty = false := by rw [ByteArray.toList_eq, B_data]; cases E with | nil => exact absurd rfl hE | cons _ _ => rfl
            have HE := Lib.hid hE
            clear hE
            go_wp2_with (first | (go_at_call 19; refine (hnx _).mono ?_; rintro e w1 ⟨rfl, hb1⟩; have hK1 := hK _ _ hKr hb1; have hz1 := hb1.size; have HB1 := hb.trans (hb1.mono (B' := w.heap.size + 1) (by omega))) | (go_at_call 13; refine (hcl2 _ (hK _ _ hK1 ((Below.refl _ _).alloc (Nat.le_refl _) _))).mono ?_; rintro e w2 ⟨bk, c, rfl, hc, hbk, hcells, hb2⟩; have hz2 := sz_a1 hb2; have HB2 := (HB1.alloc (by omega) _).trans (hb2.mono (by simp; omega)); have hown2 := own_below ((own_below hown hb1).alloc _) hb2; have hbx := heap_below (heap_alloc_new w1 (.cells #[.string (B T), .string (B E), .int .i64 k] 42)) hb2; obtain ⟨bc0, bc1, bc2⟩ := cells3 hbx) | (at_builtin; refine wpList_append_own _ rfl _ _ 23 rfl (w.heap.size + 1) 30 i0 _ 3 40 Try.underlying23 hi iz0 iz1 iz2 rfl (by decide) _ acc.length _ rfl hown2 ⟨bk, 0, none⟩ (ps.length + 1) c ((p :: ps).flatMap pcV) rfl ?c0 ?c1 ?c2 ?c3 ?c4 ?c5 ?_))
            case c0 => exact flat3 pcV pcV_len (p :: ps)
            case c1 => intro j u hu; rw [show (⟨bk, 0, none⟩ : Addr).add j = ⟨bk, j, none⟩ by unfold Addr.add; split <;> simp_all]; exact hcells.out j u hu
            case c2 => exact pcV_one _
            case c3 => unfold maxLen; simp at hlp ⊢; omega
            case c4 => simp at hlp ⊢; omega
            case c5 => omega
            intro v3 w3 hown3 hg3 h03
            have hbx3 := heap_grown hbx hg3 (own_ne2 hown2 hbx)
            obtain ⟨cc0, cc1, cc2⟩ := cells3 hbx3
            have HB3 := below_grownOwn HB2 hown2 hg3 (by omega) (Nat.le_refl _)
            have hz3 := hg3.size
            have Hown3 := Lib.hid hown3
            clear hown3 h03 hown2 hg3 hbx
            have hmk := fun w (hw : ∀ (j : Nat) x, [E][j]? = some x → w.cell? ⟨w3.heap.size, j, none⟩ = some (.string (B x))) => Mark_any w3.heap.size 1 [E] w hw (by simp) (by simp) (by simp; omega) (by simp)
            have hnw := Lib.hid (one_new w3 E)
            simp only [List.flatten_singleton, List.length_singleton] at hmk
            go_wp2_with (first | (go_at_call 20; refine (hmk _ hnw.out).mono ?_; rintro e w4 ⟨rfl, hb4⟩; have hz4 := sz_a1 hb4; have hown4 := own_below (Hown3.out.alloc _) hb4; have HB4 := (HB3.alloc (by omega) _).trans (hb4.mono (by simp; omega)); have hbx4 := heap_below (heap_more hbx3 _) hb4) | (at_builtin; refine wpList_append_own _ rfl _ _ 23 rfl (w.heap.size + 1) 30 i0 _ 3 40 Try.underlying23 hi iz0 iz1 iz2 rfl (by decide) _ _ _ rfl (hown4.alloc _) ⟨w4.heap.size, 0, none⟩ 1 1 (pcV (mk E)) rfl rfl ?d1 ?d2 ?d3 ?d4 ?d5 ?_))
            case d1 => exact three_new w4 _ _ _ _
            case d2 => intro u hu; simp only [pcV, List.mem_cons, List.not_mem_nil, or_false] at hu; rcases hu with rfl | rfl | rfl <;> rfl
            case d3 => unfold maxLen; simp at hlp; omega
            case d4 => simp at hlp; omega
            case d5 => simp; omega
            intro v5 w5 hown5 hg5 h05
            have hbx5 := heap_grown (heap_more hbx4 _) hg5 (own_ne2 hown4 hbx4)
            obtain ⟨dc0, dc1, dc2⟩ := cells3 hbx5
            have HB5 := below_grownOwn (HB4.alloc (by omega) _) (hown4.alloc _) hg5 (by simp; omega) (Nat.le_refl _)
            have Hown5 := Lib.hid hown5
            clear hown5 h05 hown4 hg5 hbx4 hbx5 hbx3 cc0 cc1 cc2 bc0 bc1 bc2
            go_wp2_with fail
            go_roundw
            case rel =>
              refine ⟨acc ++ (p :: ps) ++ [mk E], k + (T.length + E.length), fu', by omega, by simp, ?_, by omega, ?_, ?_, ?_, HB5⟩
              · rw [Hy.out]; simp [endP, HE.out]
              · simp at hlp ⊢; omega
              · have := Hown5.out; simp only [List.length_append, List.flatMap_append, List.length_cons, List.length_nil, List.flatMap_cons, List.flatMap_nil, List.append_nil, List.append_assoc, Nat.zero_add] at this ⊢; exact this
              · intro h; simp at h
            case measure => simp [intOf]; omega
    · have hk2 : k = s.size := by omega
      have he : walkL f (linesL s.data.toList) = .inl acc := by rw [hl, List.drop_of_length_le (by omega), linesF_nil]; simp [walkL, pre]
      have He := Lib.hid he
      have Hown := Lib.hid hown
      have H0 := Lib.hid h0
      clear hl he hk2 hown h0
      go_wp2_with fail
      refine bodyPost_ret (v := .tuple #[_, .agg #[.int .i64 0, .int .i64 0]]) (by simp [results, Try.results12, go_sem, fc0, fc1]; rfl) rfl ?_
      rw [← hP]
      have HBf := (((((Below.refl _ w).alloc (Nat.le_refl _) _).trans (hb.mono (by omega))).setCell (p := ⟨w.heap.size, 0, none⟩) (Nat.le_refl _) (.int .i64 0)).setCell (p := ⟨w.heap.size, 1, none⟩) (Nat.le_refl _) (.int .i64 0))
      refine ⟨_, 0, 0, rfl, .inl ⟨acc, He.out, ?_, fresh_own Hown.out (by omega), rfl, rfl⟩, HBf⟩
      exact (Rows3.of_own rfl Hown.out H0.out).set2 Hown.out (p := ⟨w.heap.size, 0, none⟩) (q := ⟨w.heap.size, 1, none⟩) (by simp) (by simp) _ _
end Go.Proofs.Ytdjeeagedcppaaa
