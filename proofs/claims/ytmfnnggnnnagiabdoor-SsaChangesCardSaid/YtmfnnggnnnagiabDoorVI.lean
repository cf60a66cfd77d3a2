/- SsaChanges holds, where MaxLen's cell holds a number. -/
import Derived.Test.YtmfnnggnnnagiabDoorVH
set_option maxRecDepth 100000
set_option maxHeartbeats 4000000
namespace Go.Proofs.YtmfnnggnnnagiabDoor
open Go Go.RowKit

/-- Behind the first reading: the pieces are told; at least one. -/
theorem SsaChanges_law (s0 s1 : ByteArray) (w : World) (hm : ML w) :
    Calls Tryd.prog 5 #[.string s0, .string s1] w fun e w' => e = .returned (.bool true) ∧ Below w.heap.size w w' := by
  by_cases q0 : (500 : Int) < s0.size
  · go_enter Tryd.func5, Tryd.ntmps5
    go_wp2_with (go_at_call 7; refine (aw25 hm _ (Below.refl _ _)).mono ?_; rintro e w9 ⟨rfl, hb9⟩)
    go_ret
    exact ⟨rfl, hb9⟩
  · skip
    by_cases q1 : (50 : Int) < s1.size
    · go_enter Tryd.func5, Tryd.ntmps5
      go_wp2_with (go_at_call 7; refine (aw25 hm _ (Below.refl _ _)).mono ?_; rintro e w9 ⟨rfl, hb9⟩)
      go_ret
      exact ⟨rfl, hb9⟩
    · skip
      have l0 := len_data s0
      have l1 := len_data s1
      go_enter Tryd.func5, Tryd.ntmps5
      go_wp2_with fail
      go_loopw [24] (fun i wr => T1Rel s1 w i wr) (fun i _ => s1.size - (intOf i).toNat)
      case atStart => exact ⟨0, by omega, rfl, by intro j h; omega, Below.refl _ _⟩
      case round =>
        obtain ⟨k, hk, rfl, hin, hbr⟩ := hrel
        by_cases hlt : k < s1.size
        · by_cases a1 : (s1[k].toNat : Int) < 97
          · clear hin
            go_wp2_with (go_at_call 7; refine (aw25 hm _ (hbr)).mono ?_; rintro e w9 ⟨rfl, hb9⟩)
            go_ret
            exact ⟨rfl, bch hbr hb9⟩
          · by_cases a2 : (122 : Int) < s1[k].toNat
            · clear hin
              go_wp2_with (go_at_call 7; refine (aw25 hm _ (hbr)).mono ?_; rintro e w9 ⟨rfl, hb9⟩)
              go_ret
              exact ⟨rfl, bch hbr hb9⟩
            · have hs : smB s1[k] = true := by unfold smB; simp; omega
              have Hin2 := Lib.hid (show ∀ j, j < k + 1 → ∀ h : j < s1.size, smB s1[j] = true from fun j hj h => by
                rcases Nat.lt_or_ge j k with h1 | h1
                · exact hin j h1 h
                · obtain rfl : j = k := by omega
                  exact hs)
              clear hin hs
              go_wp2_with fail
              go_roundw
              case rel => exact ⟨k + 1, by omega, by simp, Hin2.out, hbr⟩
              case measure => simp [intOf]; omega
        · have hbL : ∀ c ∈ s1.data.toList, smB c = true := fun c hc => by
            obtain ⟨j, hj, e⟩ := List.getElem_of_mem hc
            rw [l1] at hj
            have h9 := hin j (by omega) hj
            have h8 : s1[j] = c := (get_eq s1 j hj c).1 (by rw [← e]; exact List.getElem?_eq_getElem _)
            rw [h8] at h9; exact h9
          have HbL := Lib.hid hbL
          clear hin hbL
          cases hr : walkS ssaL (false, []) (linesL s0.data.toList) with
          | inr n =>
            have hp : ∀ W, Below w.heap.size w W → Calls Tryd.prog 8 #[.string s0] W fun e w' => e = .returned (.tuple #[.slice none 0 0, .agg #[.int .i64 1, .int .i64 n]]) ∧ Below W.heap.size W w' := fun W hW => (SParse_any s0 (by omega) W (ML_below hm hW)).mono fun e w' ⟨v, x, a, h1, h2, h3⟩ => by
              rw [hr] at h2
              rcases h2 with ⟨qs, e1, h4, _, rfl, rfl⟩ | ⟨m, e1, rfl, rfl, rfl⟩
              · cases e1
              · injection e1 with e1; subst e1; exact ⟨h1, h3⟩
            clear hr
            go_wp2_with (first | (go_at_call 8; refine (hp _ hbr).mono ?_; rintro e w1 ⟨rfl, hb1⟩) | (go_at_call 15; refine (Bad1 _ _).mono ?_; rintro e w2 ⟨rfl, hb2⟩) | (go_at_call 7; refine (aw25 hm _ (bch (bch hbr hb1) (below_a1 hb2))).mono ?_; rintro e w9 ⟨rfl, hb9⟩))
            go_ret
            exact ⟨rfl, bch (bch (bch hbr hb1) (below_a1 hb2)) hb9⟩
          | inl ps =>
            have hcp := ssa_changes s1.data.toList HbL.out _ _ ps hr
            have hcl := ssa_changes_len s1.data.toList (by omega) _ s0.data.toList (by omega) ps hr
            have hnp := walkS_len ssaL ssaL_len _ s0.data.toList ps hr
            have hp : ∀ W, Below w.heap.size w W → Calls Tryd.prog 8 #[.string s0] W fun e w' => ∃ v, e = .returned (.tuple #[v, .agg #[.int .i64 0, .int .i64 0]]) ∧ Hid (Rows3 pcV w' v ps) ∧ Below W.heap.size W w' := fun W hW => (SParse_any s0 (by omega) W (ML_below hm hW)).mono fun e w' ⟨v, x, a, h1, h2, h3⟩ => by
              rw [hr] at h2
              rcases h2 with ⟨qs, e1, h4, _, rfl, rfl⟩ | ⟨m, e1, rfl, rfl, rfl⟩
              · injection e1 with e1; subst e1; exact ⟨v, h1, Lib.hid h4, h3⟩
              · cases e1
            have hq : ∀ W, Below w.heap.size w W → Calls Tryd.prog 8 #[.string (B (wholeL (ps.map (subP s1.data.toList))))] W fun e w' => ∃ v, e = .returned (.tuple #[v, .agg #[.int .i64 0, .int .i64 0]]) ∧ Hid (Rows3 pcV w' v (ps.map (subP s1.data.toList))) ∧ Below W.heap.size W w' := fun W hW => (SParse_any _ (by rw [B_size]; omega) W (ML_below hm hW)).mono fun e w' ⟨v, x, a, h1, h2, h3⟩ => by
              rw [B_data, hcp] at h2
              rcases h2 with ⟨qs, e1, h4, _, rfl, rfl⟩ | ⟨m, e1, rfl, rfl, rfl⟩
              · injection e1 with e1; subst e1; exact ⟨v, h1, Lib.hid h4, h3⟩
              · cases e1
            clear hr hcp
            by_cases hps : ps = []
            · subst hps
              have hp0 : ∀ W, Below w.heap.size w W → Calls Tryd.prog 8 #[.string s0] W fun e w' => e = .returned (.tuple #[.slice none 0 0, .agg #[.int .i64 0, .int .i64 0]]) ∧ Below W.heap.size W w' := fun W hW => (hp W hW).mono fun e w' ⟨v, h1, h2, h3⟩ => by
                rcases h2.out with ⟨_, rfl⟩ | ⟨_, _, h4, _⟩
                · exact ⟨h1, h3⟩
                · exact absurd rfl h4
              have hq0 : ∀ W, Below w.heap.size w W → Calls Tryd.prog 8 #[.string (B [])] W fun e w' => e = .returned (.tuple #[.slice none 0 0, .agg #[.int .i64 0, .int .i64 0]]) ∧ Below W.heap.size W w' := fun W hW => (hq W hW).mono fun e w' ⟨v, h1, h2, h3⟩ => by
                rcases h2.out with ⟨_, rfl⟩ | ⟨_, _, h4, _⟩
                · exact ⟨h1, h3⟩
                · exact absurd rfl h4
              clear hp hq hcl hnp
              obtain ⟨i0, hi, iz0, iz1, iz2⟩ := info_parts piece_info
              go_wp2_with (first | (go_at_call 8; refine (hp0 _ hbr).mono ?_; rintro e w1 ⟨rfl, hb1⟩) | (go_at_call 15; refine (Bad0 _).mono ?_; rintro e w2 ⟨rfl, hb2⟩; have hB2 := bch (bch hbr hb1) (below_a1 hb2); have hown0 : w2.ownsRow w2.heap.size 38 3 (.slice none 0 0) 0 [] := ⟨rfl, .inl ⟨rfl, rfl⟩⟩) | (at_builtin; refine wpList_append_own_none rfl _ _ 23 rfl w2.heap.size 38 i0 3 Tryd.underlying23 hi _ 0 _ rfl hown0 rfl ?_))
              have hw0 : ∀ w, Calls Tryd.prog 12 #[.slice none 0 0] w fun e w' => e = .returned (.string (B [])) ∧ Below w.heap.size w w' := fun w => Whole_any (.slice none 0 0) [] w (.inl ⟨rfl, rfl⟩) (by simp) (by simp [wholeL])
              refine wp_loop_rounds 2 ?_
              rw [rounds_succ]
              go_wp2_with (first | (go_at_call 12; refine (hw0 _).mono ?_; rintro e w5 ⟨rfl, hb5⟩) | (go_at_call 8; refine (hq0 _ (bch hB2 hb5)).mono ?_; rintro e w6 ⟨rfl, hb6⟩) | (go_at_call 15; refine (Bad0 _).mono ?_; rintro e w7 ⟨rfl, hb7⟩))
              refine wp_loop_rounds 2 ?_
              rw [rounds_succ]
              go_wp2_with (go_at_call 7; refine (aw25 hm _ (bch hB2 (bch (bch hb5 hb6) (below_a1 hb7)))).mono ?_; rintro e w9 ⟨rfl, hb9⟩)
              go_ret
              exact ⟨rfl, bch (bch hB2 (bch (bch hb5 hb6) (below_a1 hb7))) hb9⟩
            · have hpos : 0 < ps.length := by cases ps with | nil => exact absurd rfl hps | cons _ _ => simp
              have hp0 : ∀ W, Below w.heap.size w W → Calls Tryd.prog 8 #[.string s0] W fun e w' => ∃ bp c : Nat, e = .returned (.tuple #[.slice (some ⟨bp, 0, none⟩) ps.length c, .agg #[.int .i64 0, .int .i64 0]]) ∧ ps.length ≤ c ∧ bp < w'.heap.size ∧ Hid (∀ j u, (ps.flatMap pcV)[j]? = some u → w'.cell? ⟨bp, j, none⟩ = some u) ∧ Below W.heap.size W w' := fun W hW => (hp W hW).mono fun e w' ⟨v, h1, h2, h3⟩ => by
                rcases h2.out with ⟨h4, _⟩ | ⟨bp, c, _, rfl, h5, h6, h7⟩
                · exact absurd h4 hps
                · exact ⟨bp, c, h1, h5, h6, Lib.hid h7, h3⟩
              clear hp
              obtain ⟨i0, hi, iz0, iz1, iz2⟩ := info_parts piece_info
              go_wp2_with (first | (go_at_call 8; refine (hp0 _ hbr).mono ?_; rintro e w1 ⟨bp, c, rfl, hc, hbp, hcells, hb1⟩) | (go_at_call 15; refine (Bad0 _).mono ?_; rintro e w2 ⟨rfl, hb2⟩; have hB2 := bch (bch hbr hb1) (below_a1 hb2); have hcl2 := Lib.hid (fun (j : Nat) u (hu : (ps.flatMap pcV)[j]? = some u) => old2 hb2 hbp (hcells.out j u hu)); have hown0 : w2.ownsRow w2.heap.size 38 3 (.slice none 0 0) 0 [] := ⟨rfl, .inl ⟨rfl, rfl⟩⟩) | (at_builtin; refine wpList_append_own _ rfl _ _ 23 rfl w2.heap.size 38 i0 _ 3 40 Tryd.underlying23 hi iz0 iz1 iz2 rfl (by decide) _ 0 _ rfl hown0 ⟨bp, 0, none⟩ ps.length c (ps.flatMap pcV) rfl ?c0 ?c1 ?c2 ?c3 ?c4 ?c5 ?_))
              case c0 => exact flat3 pcV pcV_len ps
              case c1 => intro j u hu; rw [show (⟨bp, 0, none⟩ : Addr).add j = ⟨bp, j, none⟩ by unfold Addr.add; split <;> simp_all]; exact hcl2.out j u hu
              case c2 => exact pcV_one _
              case c3 => unfold maxLen; omega
              case c4 => omega
              case c5 => omega
              intro v3 w3 hown3 hg3 h03
              have HB3 := below_grownOwn hB2 hown0 hg3 (by have := hB2.size; omega) (by have := hB2.size; omega)
              have HB2s := below_grownOwn (Below.refl w2.heap.size w2) hown0 hg3 (Nat.le_refl _) (Nat.le_refl _)
              have hm0 : mid s1.data.toList ps 0 = ps := by simp [mid]
              have hown4 : w3.ownsRow w2.heap.size 38 3 v3 ps.length ((mid s1.data.toList ps 0).flatMap pcV) := by
                have := hown3
                rw [hm0]
                simpa using this
              clear hown3 h03 hown0 hg3
              obtain ⟨g, cap, rfl, hcap, hg1, hg2⟩ : ∃ g cap : Nat, v3 = .slice (some ⟨g, 0, none⟩) ps.length cap ∧ ps.length ≤ cap ∧ w2.heap.size ≤ g ∧ g < w3.heap.size := by
                rcases hown4.2 with ⟨_, h1⟩ | ⟨g, cap, cur, rfl, hb, hg, hnc, hcm, hcs, htake⟩
                · omega
                · exact ⟨g, cap, rfl, hnc, hb, (Array.getElem?_eq_some_iff.1 hg).1⟩
              have Hown4 := Lib.hid hown4
              clear hown4
              go_wp2_with fail
              go_loopw [51] (fun i wr' => C2Rel s1.data.toList ps (.slice (some ⟨g, 0, none⟩) ps.length cap) w2 i wr') (fun i _ => ps.length - (intOf i).toNat)
              case atStart => exact ⟨0, by omega, rfl, Hown4.out, HB2s⟩
              case round =>
                obtain ⟨k2, hk2, rfl, hown, hb⟩ := hrel
                by_cases hlt2 : k2 < ps.length
                · obtain ⟨p, hp⟩ : ∃ p, ps[k2]? = some p := ⟨_, List.getElem?_eq_getElem hlt2⟩
                  have hmp : (mid s1.data.toList ps k2)[k2]? = some p := (mid_at _ ps k2 hlt2).trans hp
                  have hxl : ((mid s1.data.toList ps k2).flatMap pcV).length = ps.length * 3 := by rw [flat3 pcV pcV_len, mid_len]
                  have e0 := flat3_at pcV pcV_len (mid s1.data.toList ps k2) k2 0 p hmp (by omega)
                  have e2 := flat3_at pcV pcV_len (mid s1.data.toList ps k2) k2 2 p hmp (by omega)
                  have d0 : wr.cell? ⟨g, k2 * 3, none⟩ = some (.bool p.1) := by rw [hown.cellAt (k2 * 3) (by omega)]; exact e0
                  have d2 : wr.cell? ⟨g, k2 * 3 + 2, none⟩ = some (.string (B p.2.2)) := by rw [hown.cellAt (k2 * 3 + 2) (by omega)]; exact e2
                  have f2 := hown.frozenAt (k2 * 3 + 2)
                  have hnx := mid_next s1.data.toList ps k2 p hp
                  cases hp1 : p.1 with
                  | true =>
                    have hsm : mid s1.data.toList ps (k2 + 1) = mid s1.data.toList ps k2 := by
                      rw [hnx, show subP s1.data.toList p = p by simp [subP, hp1]]
                      apply List.ext_getElem?
                      intro j
                      by_cases e : k2 = j
                      · subst e; rw [List.getElem?_set_self (by rw [mid_len]; omega), hmp]
                      · rw [List.getElem?_set_ne e]
                    have Hown := Lib.hid hown
                    rw [hp1] at d0
                    clear hnx e0 e2 hxl hown
                    have Hsm := Lib.hid hsm
                    clear hsm
                    go_wp2_with fail
                    go_roundw
                    case rel => exact ⟨k2 + 1, by omega, by simp, by rw [Hsm.out]; exact Hown.out, hb⟩
                    case measure => simp [intOf]; omega
                  | false =>
                    have hst := (hown.stored (k2 * 3 + 2) (.string s1)).1
                    have hfs := flat3_set pcV pcV_len (mid s1.data.toList ps k2) k2 2 p (subP s1.data.toList p) (.string s1) hmp (by omega) (by simp [subP, hp1, pcV]; exact (B_of s1).symm)
                    rw [hfs, ← hnx] at hst
                    have Hst := Lib.hid hst
                    rw [hp1] at d0
                    clear hnx e0 e2 hxl hown hst hfs
                    go_wp2_with fail
                    go_roundw
                    case rel => exact ⟨k2 + 1, by omega, by simp, Hst.out, hb.setCell (p := ⟨g, k2 * 3 + 2, none⟩) hg1 _⟩
                    case measure => simp [intOf]; omega
                · have hk4 : k2 = ps.length := by omega
                  subst hk4
                  rw [mid_end] at hown
                  have hrow : Rows3 pcV wr (.slice (some ⟨g, 0, none⟩) ps.length cap) (ps.map (subP s1.data.toList)) := Rows3.of_own (by simp) hown (fun h => absurd (List.map_eq_nil_iff.1 h) hps)
                  have Hrow := Lib.hid hrow
                  clear hown hrow
                  have HB4 := bch hB2 hb
                  have hq1 : ∀ W, Below w.heap.size w W → Calls Tryd.prog 8 #[.string (B (wholeL (ps.map (subP s1.data.toList))))] W fun e w' => ∃ b2 c2 : Nat, e = .returned (.tuple #[.slice (some ⟨b2, 0, none⟩) ps.length c2, .agg #[.int .i64 0, .int .i64 0]]) ∧ ps.length ≤ c2 ∧ b2 < w'.heap.size ∧ Hid (∀ j u, ((ps.map (subP s1.data.toList)).flatMap pcV)[j]? = some u → w'.cell? ⟨b2, j, none⟩ = some u) ∧ Below W.heap.size W w' := fun W hW => (hq W hW).mono fun e w' ⟨v, h1, h2, h3⟩ => by
                    rcases h2.out with ⟨h4, _⟩ | ⟨bp, c, _, rfl, h5, h6, h7⟩
                    · exact absurd (List.map_eq_nil_iff.1 h4) hps
                    · rw [List.length_map] at h1 h5
                      exact ⟨bp, c, h1, h5, h6, Lib.hid h7, h3⟩
                  have hmc : g < wr.heap.size ∧ ∀ j u, ((ps.map (subP s1.data.toList)).flatMap pcV)[j]? = some u → wr.cell? ⟨g, j, none⟩ = some u := by
                    rcases Hrow.out with ⟨h, _⟩ | ⟨bk, c, _, he, _, h3, h4⟩
                    · exact absurd (List.map_eq_nil_iff.1 h) hps
                    · simp at he
                      obtain ⟨rfl, _⟩ := he
                      exact ⟨h3, h4⟩
                  obtain ⟨hgw, hmc⟩ := hmc
                  have Hmc := Lib.hid hmc
                  clear hmc hq
                  go_wp2_with (first | (go_at_call 12; refine (Whole_any _ _ _ Hrow.out (by simp; omega) (by omega)).mono ?_; rintro e w5 ⟨rfl, hb5⟩) | (go_at_call 8; refine (hq1 _ (bch HB4 hb5)).mono ?_; rintro e w6 ⟨b2, c2, rfl, hc2, hb62, hcells2, hb6⟩) | (go_at_call 15; refine (Bad0 _).mono ?_; rintro e w7 ⟨rfl, hb7⟩))
                  have hb57 := bch (bch hb5 hb6) (below_a1 hb7)
                  have HB7 := bch HB4 hb57
                  have M7 := Lib.hid (fun (j : Nat) u (hu : ((ps.map (subP s1.data.toList)).flatMap pcV)[j]? = some u) => (hb57.cell (p := ⟨g, j, none⟩) hgw).trans (Hmc.out j u hu))
                  have N7 := Lib.hid (fun (j : Nat) u (hu : ((ps.map (subP s1.data.toList)).flatMap pcV)[j]? = some u) => old2 hb7 hb62 (hcells2.out j u hu))
                  have hg7 : g < w7.heap.size := Nat.lt_of_lt_of_le hgw hb57.size
                  have hb27 : b2 < w7.heap.size := by have := (below_a1 hb7).size; omega
                  clear hq1 Hrow
                  go_loopw [83] (fun i wr' => C3Rel ps.length w7 i wr') (fun i _ => ps.length - (intOf i).toNat)
                  case atStart => exact ⟨0, by omega, rfl, Below.refl _ _⟩
                  case round =>
                    obtain ⟨k5, hk5, rfl, hb8⟩ := hrel
                    by_cases hlt5 : k5 < ps.length
                    · obtain ⟨q, hq⟩ : ∃ q, (ps.map (subP s1.data.toList))[k5]? = some q := ⟨_, List.getElem?_eq_getElem (by simp; omega)⟩
                      obtain ⟨m0, m1, m2⟩ := Rows3.at_ pcV_len (fun j u hu => (hb8.cell (p := ⟨g, j, none⟩) hg7).trans (M7.out j u hu)) hq rfl
                      obtain ⟨n0, n1, n2⟩ := Rows3.at_ pcV_len (fun j u hu => (hb8.cell (p := ⟨b2, j, none⟩) hb27).trans (N7.out j u hu)) hq rfl
                      go_wp2_with fail
                      go_quiet (fail)
                      go_wp2_with fail
                      go_roundw
                      case rel => exact ⟨k5 + 1, by omega, by simp, below_drewN hb8 _⟩
                      case measure => simp [intOf]; omega
                    · go_wp2_with (go_at_call 7; refine (aw25 hm _ (bch HB7 hb8)).mono ?_; rintro e w9 ⟨rfl, hb9⟩)
                      go_ret
                      exact ⟨rfl, bch (bch HB7 hb8) hb9⟩
end Go.Proofs.YtmfnnggnnnagiabDoor
