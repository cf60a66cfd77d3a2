/- Contracts of the document's Lines, Put, Write (chapter 22); condition: at most 1,000,000 bytes. -/
import Derived.Test.YtlcgfgbdehdndaaDoorYM
set_option maxRecDepth 100000
set_option maxHeartbeats 4000000
namespace Go.Proofs.YtlcgfgbdehdndaaDoor
open Go Go.RowKit

theorem rline_info : (Tryd.prog.info? 45).map (fun i => (i.zero, i.size, i.bytes)) = some (some (.agg #[.string ⟨#[]⟩, .string ⟨#[]⟩, .int .i64 0]), 3, 40) := by kernel_rfl
def RlRel (s : ByteArray) (w0 : World) (v a i : Value) (wr : World) : Prop := ∃ (done : List Ln) (at_ q f : Nat), at_ ≤ q ∧ q ≤ s.size ∧ a = .int .i64 at_ ∧ i = .int .i64 q ∧ linesL s.data.toList = done ++ linesF f (s.data.toList.drop at_) at_ ∧ s.size - at_ ≤ f ∧ done.length ≤ at_ ∧ (∀ j, at_ ≤ j → j < q → ∀ h : j < s.size, s[j] ≠ 10 ∧ s[j] ≠ 13) ∧ wr.ownsRow w0.heap.size 45 3 v done.length (done.flatMap lnV) ∧ (done = [] → v = .slice none 0 0) ∧ Below w0.heap.size w0 wr
theorem RLines_any (s : ByteArray) (hs : s.size ≤ 1000000) (w : World) :
    Calls Tryd.prog 13 #[.string s] w (LsPost s.data.toList w) := by
  generalize hP : LsPost s.data.toList w = P at *
  obtain ⟨i0, hi, iz0, iz1, iz2⟩ := info_parts rline_info
  have hlen := len_data s
  go_enter Tryd.func13, Tryd.ntmps13
  go_wp2_with fail
  go_loopw [3, 4, 5] (fun v a i wr => RlRel s w v a i wr) (fun _ _ i _ => s.size - (intOf i).toNat)
  case atStart => exact ⟨[], 0, 0, s.data.toList.length, by omega, by omega, rfl, rfl, rfl, by omega, by simp, fun j h1 h2 => by omega, ⟨rfl, .inl ⟨rfl, rfl⟩⟩, fun _ => rfl, Below.refl _ _⟩
  case round =>
    obtain ⟨done, at_, q, f, haq, hq, rfl, rfl, hl, hf, hd, hno, hown, h0, hb⟩ := hrel
    have hz := hb.size
    by_cases hlt : q < s.size
    · by_cases hn : s[q] ≠ 10 ∧ s[q] ≠ 13
      · have c1 : ((s[q].toNat : Int) != 10) = true := (ne_int (n := 10) (u8_ne hn.1)).1
        have c2 : ((s[q].toNat : Int) != 13) = true := (ne_int (n := 13) (u8_ne hn.2)).1
        have Hno := Lib.hid (show ∀ j, at_ ≤ j → j < q + 1 → ∀ h : j < s.size, s[j] ≠ 10 ∧ s[j] ≠ 13 from fun j h1 h2 h => by
          by_cases e : j = q
          · subst e; exact hn
          · exact hno j h1 (by omega) h)
        have Hl := Lib.hid hl
        have Hown := Lib.hid hown
        have H0 := Lib.hid h0
        clear hn hno hl hown h0
        go_wp2_with fail
        go_roundw
        case rel => exact ⟨done, at_, q + 1, f, by omega, by omega, rfl, by go_num, Hl.out, hf, hd, Hno.out, Hown.out, H0.out, hb⟩
        case measure => simp [intOf]; omega
      · have hrl : (s.data.toList.drop at_).length = s.size - at_ := by rw [List.length_drop, hlen]
        have hne : s.data.toList.drop at_ ≠ [] := by intro e; rw [e] at hrl; simp at hrl; omega
        obtain ⟨f', rfl⟩ : ∃ f', f = f' + 1 := ⟨f - 1, by omega⟩
        obtain ⟨n, hnn⟩ : ∃ n, n = (lnT (s.data.toList.drop at_)).length := ⟨_, rfl⟩
        obtain ⟨h1, h2, h3, h4⟩ := nx_facts s at_ n (by omega) hnn
        have hnq : n = q - at_ := by
          rcases Nat.lt_trichotomy n (q - at_) with h | h | h
          · have a := h3 (by omega)
            have b := hno (at_ + n) (by omega) (by omega) (by omega)
            rcases a with a | a
            · exact absurd a b.1
            · exact absurd a b.2
          · exact h
          · have a := h2 (q - at_) h (by omega)
            have e : at_ + (q - at_) = q := by omega
            simp only [e] at a
            exact absurd a hn
        obtain ⟨g1, g2, g3, g4⟩ := eol_facts s at_ n hnn
        have hX := fun m hm => lnE_ext s at_ n m hnn hm
        have hTl := hnn.symm
        subst hnq
        have eq1 : at_ + (q - at_) = q := by omega
        simp only [eq1] at h3 h4 g1 g2 g3 g4 hX
        have HE1 := Lib.hid h4
        have Hown := Lib.hid hown
        clear hown h0 hno hnn
        have hn2 : s[q] = 10 ∨ s[q] = 13 := h3 hlt
        clear hn
        rcases hn2 with e10 | e13
        · have c1 : ((s[q].toNat : Int) != 10) = false := by rw [e10]; rfl
          have c2 : ((s[q].toNat : Int) == 13) = false := by rw [e10]; rfl
          have hE := Lib.hid (g2 hlt e10)
          clear e10
          have Hst := Lib.hid (show linesL s.data.toList = (done ++ [(lnT (s.data.toList.drop at_), lnE (s.data.toList.drop at_), at_)]) ++ linesF f' (s.data.toList.drop (q + 1)) (q + 1) by
            rw [hl, linesF, if_neg hne, List.drop_drop, List.append_assoc, hE.out, hTl, show at_ + (q - at_ + ([10] : List UInt8).length) = q + 1 by simp; omega]
            rfl)
          have HX := Lib.hid (show s.extract q (q + 1) = B (lnE (s.data.toList.drop at_)) by rw [← hX 1 (by rw [hE.out]; rfl)])
          clear hl hne hX g1 g2 g3 g4 h1 h2 h3 h4
          go_wp2_with fail
          refine wp_region_pl (fun _ => True) (.one 0 true (.one 1 true (.one 2 true (.one 3 true (.one 4 true (.one 5 true (.one 6 true (.one 7 true (.one 8 true (.one 9 true (.one 10 true (.one 11 true (.one 12 true (.one 13 false (.one 14 false (.one 15 true .nil)))))))))))))))) (by kernel_rfl) (by kernel_rfl) (by kernel_rfl) (Nat.le_of_ble_eq_true rfl) (fun _ _ d _ _ h => by cases d <;> exact h) trivial ?_
          refine' pl_pure rfl (by rfl) _ (fun w hSw => _) _
          rotate_left
          · go_simp
            try with_reducible rfl
          try simp only [Act.put, List.setIfInBounds_toArray, List.set_cons_zero, List.set_cons_succ]
          refine' pl_pure rfl (by rfl) _ (fun w hSw => _) _
          rotate_left
          · go_simp
            try with_reducible rfl
          try simp only [Act.put, List.setIfInBounds_toArray, List.set_cons_zero, List.set_cons_succ]
          refine' pl_pure rfl (by rfl) _ (fun w hSw => _) _
          rotate_left
          · go_simp
            try with_reducible rfl
          try simp only [Act.put, List.setIfInBounds_toArray, List.set_cons_zero, List.set_cons_succ]
          refine' pl_pure rfl (by rfl) _ (fun w hSw => _) _
          rotate_left
          · go_simp
            try with_reducible rfl
          try simp only [Act.put, List.setIfInBounds_toArray, List.set_cons_zero, List.set_cons_succ]
          refine pl_pure rfl (by rfl) (.string (s.extract at_ q)) (fun w hSw => by go_simp; first | done | (rw [if_pos (by omega), if_pos (by omega)])) ?_
          try simp only [Act.put, List.setIfInBounds_toArray, List.set_cons_zero, List.set_cons_succ]
          refine' pl_pure rfl (by rfl) _ (fun w hSw => _) _
          rotate_left
          · go_simp
            try with_reducible rfl
          try simp only [Act.put, List.setIfInBounds_toArray, List.set_cons_zero, List.set_cons_succ]
          refine' pl_pure rfl (by rfl) _ (fun w hSw => _) _
          rotate_left
          · go_simp
            try with_reducible rfl
          try simp only [Act.put, List.setIfInBounds_toArray, List.set_cons_zero, List.set_cons_succ]
          refine' pl_pure rfl (by rfl) _ (fun w hSw => _) _
          rotate_left
          · go_simp
            try with_reducible rfl
          try simp only [Act.put, List.setIfInBounds_toArray, List.set_cons_zero, List.set_cons_succ]
          refine' pl_pure rfl (by rfl) _ (fun w hSw => _) _
          rotate_left
          · go_simp
            try with_reducible rfl
          try simp only [Act.put, List.setIfInBounds_toArray, List.set_cons_zero, List.set_cons_succ]
          refine pl_pure rfl (by rfl) (.int .i64 ((q : Int) + 1)) (fun w hSw => by go_simp; first | done | (rw [IntWalk.i64_in _ (by omega)])) ?_
          try simp only [Act.put, List.setIfInBounds_toArray, List.set_cons_zero, List.set_cons_succ]
          refine pl_pure rfl (by rfl) (.string (s.extract q (q + 1))) (fun w hSw => by go_simp; first | done | (rw [if_pos (by omega), if_pos (by omega)]; done) | (rw [if_pos (by omega)]; done) | (rw [if_pos (by omega), if_pos (by omega), show ((q : Int) + 2).toNat = q + 2 by omega]; done) | (intro h; omega)) ?_
          try simp only [Act.put, List.setIfInBounds_toArray, List.set_cons_zero, List.set_cons_succ]
          refine' pl_pure rfl (by rfl) _ (fun w hSw => _) _
          rotate_left
          · go_simp
            try with_reducible rfl
          try simp only [Act.put, List.setIfInBounds_toArray, List.set_cons_zero, List.set_cons_succ]
          refine' pl_pure rfl (by rfl) _ (fun w hSw => _) _
          rotate_left
          · go_simp
            try with_reducible rfl
          try simp only [Act.put, List.setIfInBounds_toArray, List.set_cons_zero, List.set_cons_succ]
          refine pl_eff (eff_of rfl (by rfl) (fun K hK => ?_))
          go_simp
          go_wp2_with fail
          refine hK.out _ _ trivial ?_
          clear hK K
          try simp only [Act.put, List.setIfInBounds_toArray, List.set_cons_zero, List.set_cons_succ]
          refine pl_eff (eff_of rfl (by rfl) (fun K hK => ?_))
          refine wp_append_own _ _ _ 42 rfl w.heap.size 45 i0 _ 3 40 Tryd.underlying42 hi iz0 iz1 iz2 rfl (by decide) _ done.length _ rfl ((Hown.out.drew).alloc (.cells #[.string (s.extract at_ q), .string (s.extract q (q + 1)), .int .i64 at_] 45)) ⟨wr.drew.heap.size, 0, none⟩ 1 1 [.string (s.extract at_ q), .string (s.extract q (q + 1)), .int .i64 at_] rfl rfl (three_new wr.drew _ _ _ _) (by intro u hu; simp at hu; rcases hu with rfl | rfl | rfl <;> rfl) (by unfold maxLen; omega) (by omega) (by simp; omega) ?_
          intro v' w2 hown2 hg2 h02
          refine hK.out _ _ trivial ?_
          clear hK K
          try simp only [Act.put, List.setIfInBounds_toArray, List.set_cons_zero, List.set_cons_succ]
          refine' pl_pure rfl (by rfl) _ (fun w hSw => _) _
          rotate_left
          · go_simp
            try with_reducible rfl
          try simp only [Act.put, List.setIfInBounds_toArray, List.set_cons_zero, List.set_cons_succ]
          refine pl_nil ?_
          have hB2 := below_grownOwn (hb.drew.alloc (by exact hz) (.cells #[.string (s.extract at_ q), .string (s.extract q (q + 1)), .int .i64 at_] 45)) ((Hown.out.drew).alloc (.cells #[.string (s.extract at_ q), .string (s.extract q (q + 1)), .int .i64 at_] 45)) hg2 (by simp; omega) (Nat.le_refl _)
          have Hown2 := Lib.hid hown2
          clear hown2 hg2 h02
          go_wp2_with fail
          go_roundw
          case rel =>
            refine ⟨done ++ [(lnT (s.data.toList.drop at_), lnE (s.data.toList.drop at_), at_)], q + 1, q + 1, f', by omega, by omega, by go_num, by go_num, Hst.out, by omega, by simp; omega, fun j h1 h2 => absurd h1 (by omega), ?_, fun e => by simp at e, hB2⟩
            have := Hown2.out
            rw [HE1.out, HX.out] at this
            simp only [List.length_append, List.flatMap_append, List.length_cons, List.length_nil, List.flatMap_cons, List.flatMap_nil, List.append_nil, Nat.zero_add]
            exact this
          case measure => simp [intOf]; omega
        · have c1 : ((s[q].toNat : Int) != 10) = true := by rw [e13]; rfl
          have c2 : ((s[q].toNat : Int) != 13) = false := by rw [e13]; rfl
          have c3 : ((s[q].toNat : Int) == 13) = true := by rw [e13]; rfl
          by_cases hq2 : q + 1 < s.size
          · by_cases e10 : s[q + 1] = 10
            · have c4 : ((s[q + 1].toNat : Int) == 10) = true := by rw [e10]; rfl
              have hE := Lib.hid (g3 hlt hq2 e13 e10)
              clear e10 e13
              have Hst := Lib.hid (show linesL s.data.toList = (done ++ [(lnT (s.data.toList.drop at_), lnE (s.data.toList.drop at_), at_)]) ++ linesF f' (s.data.toList.drop (q + 2)) (q + 2) by
                rw [hl, linesF, if_neg hne, List.drop_drop, List.append_assoc, hE.out, hTl, show at_ + (q - at_ + ([13, 10] : List UInt8).length) = q + 2 by simp; omega]
                rfl)
              have HX := Lib.hid (show s.extract q (q + 2) = B (lnE (s.data.toList.drop at_)) by rw [← hX 2 (by rw [hE.out]; rfl)])
              clear hl hne hX g1 g2 g3 g4 h1 h2 h3 h4
              go_wp2_with fail
              refine wp_region_pl (fun _ => True) (.one 0 true (.one 1 true (.one 2 true (.one 3 true (.one 4 true (.one 5 true (.one 6 true (.one 7 true (.one 8 true (.one 9 true (.one 10 true (.one 11 true (.one 12 true (.one 13 false (.one 14 false (.one 15 true .nil)))))))))))))))) (by kernel_rfl) (by kernel_rfl) (by kernel_rfl) (Nat.le_of_ble_eq_true rfl) (fun _ _ d _ _ h => by cases d <;> exact h) trivial ?_
              refine' pl_pure rfl (by rfl) _ (fun w hSw => _) _
              rotate_left
              · go_simp
                try with_reducible rfl
              try simp only [Act.put, List.setIfInBounds_toArray, List.set_cons_zero, List.set_cons_succ]
              refine' pl_pure rfl (by rfl) _ (fun w hSw => _) _
              rotate_left
              · go_simp
                try with_reducible rfl
              try simp only [Act.put, List.setIfInBounds_toArray, List.set_cons_zero, List.set_cons_succ]
              refine' pl_pure rfl (by rfl) _ (fun w hSw => _) _
              rotate_left
              · go_simp
                try with_reducible rfl
              try simp only [Act.put, List.setIfInBounds_toArray, List.set_cons_zero, List.set_cons_succ]
              refine' pl_pure rfl (by rfl) _ (fun w hSw => _) _
              rotate_left
              · go_simp
                try with_reducible rfl
              try simp only [Act.put, List.setIfInBounds_toArray, List.set_cons_zero, List.set_cons_succ]
              refine pl_pure rfl (by rfl) (.string (s.extract at_ q)) (fun w hSw => by go_simp; first | done | (rw [if_pos (by omega), if_pos (by omega)])) ?_
              try simp only [Act.put, List.setIfInBounds_toArray, List.set_cons_zero, List.set_cons_succ]
              refine' pl_pure rfl (by rfl) _ (fun w hSw => _) _
              rotate_left
              · go_simp
                try with_reducible rfl
              try simp only [Act.put, List.setIfInBounds_toArray, List.set_cons_zero, List.set_cons_succ]
              refine' pl_pure rfl (by rfl) _ (fun w hSw => _) _
              rotate_left
              · go_simp
                try with_reducible rfl
              try simp only [Act.put, List.setIfInBounds_toArray, List.set_cons_zero, List.set_cons_succ]
              refine' pl_pure rfl (by rfl) _ (fun w hSw => _) _
              rotate_left
              · go_simp
                try with_reducible rfl
              try simp only [Act.put, List.setIfInBounds_toArray, List.set_cons_zero, List.set_cons_succ]
              refine' pl_pure rfl (by rfl) _ (fun w hSw => _) _
              rotate_left
              · go_simp
                try with_reducible rfl
              try simp only [Act.put, List.setIfInBounds_toArray, List.set_cons_zero, List.set_cons_succ]
              refine pl_pure rfl (by rfl) (.int .i64 ((q : Int) + 2)) (fun w hSw => by go_simp; first | done | (rw [IntWalk.i64_in _ (by omega)])) ?_
              try simp only [Act.put, List.setIfInBounds_toArray, List.set_cons_zero, List.set_cons_succ]
              refine pl_pure rfl (by rfl) (.string (s.extract q (q + 2))) (fun w hSw => by go_simp; first | done | (rw [if_pos (by omega), if_pos (by omega)]; done) | (rw [if_pos (by omega)]; done) | (rw [if_pos (by omega), if_pos (by omega), show ((q : Int) + 2).toNat = q + 2 by omega]; done) | (intro h; omega)) ?_
              try simp only [Act.put, List.setIfInBounds_toArray, List.set_cons_zero, List.set_cons_succ]
              refine' pl_pure rfl (by rfl) _ (fun w hSw => _) _
              rotate_left
              · go_simp
                try with_reducible rfl
              try simp only [Act.put, List.setIfInBounds_toArray, List.set_cons_zero, List.set_cons_succ]
              refine' pl_pure rfl (by rfl) _ (fun w hSw => _) _
              rotate_left
              · go_simp
                try with_reducible rfl
              try simp only [Act.put, List.setIfInBounds_toArray, List.set_cons_zero, List.set_cons_succ]
              refine pl_eff (eff_of rfl (by rfl) (fun K hK => ?_))
              go_simp
              go_wp2_with fail
              refine hK.out _ _ trivial ?_
              clear hK K
              try simp only [Act.put, List.setIfInBounds_toArray, List.set_cons_zero, List.set_cons_succ]
              refine pl_eff (eff_of rfl (by rfl) (fun K hK => ?_))
              refine wp_append_own _ _ _ 42 rfl w.heap.size 45 i0 _ 3 40 Tryd.underlying42 hi iz0 iz1 iz2 rfl (by decide) _ done.length _ rfl ((Hown.out.drew).alloc (.cells #[.string (s.extract at_ q), .string (s.extract q (q + 2)), .int .i64 at_] 45)) ⟨wr.drew.heap.size, 0, none⟩ 1 1 [.string (s.extract at_ q), .string (s.extract q (q + 2)), .int .i64 at_] rfl rfl (three_new wr.drew _ _ _ _) (by intro u hu; simp at hu; rcases hu with rfl | rfl | rfl <;> rfl) (by unfold maxLen; omega) (by omega) (by simp; omega) ?_
              intro v' w2 hown2 hg2 h02
              refine hK.out _ _ trivial ?_
              clear hK K
              try simp only [Act.put, List.setIfInBounds_toArray, List.set_cons_zero, List.set_cons_succ]
              refine' pl_pure rfl (by rfl) _ (fun w hSw => _) _
              rotate_left
              · go_simp
                try with_reducible rfl
              try simp only [Act.put, List.setIfInBounds_toArray, List.set_cons_zero, List.set_cons_succ]
              refine pl_nil ?_
              have hB2 := below_grownOwn (hb.drew.alloc (by exact hz) (.cells #[.string (s.extract at_ q), .string (s.extract q (q + 2)), .int .i64 at_] 45)) ((Hown.out.drew).alloc (.cells #[.string (s.extract at_ q), .string (s.extract q (q + 2)), .int .i64 at_] 45)) hg2 (by simp; omega) (Nat.le_refl _)
              have Hown2 := Lib.hid hown2
              clear hown2 hg2 h02
              go_wp2_with fail
              go_roundw
              case rel =>
                refine ⟨done ++ [(lnT (s.data.toList.drop at_), lnE (s.data.toList.drop at_), at_)], q + 2, q + 2, f', by omega, by omega, by go_num, by go_num, Hst.out, by omega, by simp; omega, fun j h1 h2 => absurd h1 (by omega), ?_, fun e => by simp at e, hB2⟩
                have := Hown2.out
                rw [HE1.out, HX.out] at this
                simp only [List.length_append, List.flatMap_append, List.length_cons, List.length_nil, List.flatMap_cons, List.flatMap_nil, List.append_nil, Nat.zero_add]
                exact this
              case measure => simp [intOf]; omega
            · have c4 : ((s[q + 1].toNat : Int) == 10) = false := (ne_int (n := 10) (u8_ne e10)).2
              have hE := Lib.hid (g4 hlt e13 (fun _ => e10))
              clear e10 e13
              have Hst := Lib.hid (show linesL s.data.toList = (done ++ [(lnT (s.data.toList.drop at_), lnE (s.data.toList.drop at_), at_)]) ++ linesF f' (s.data.toList.drop (q + 1)) (q + 1) by
                rw [hl, linesF, if_neg hne, List.drop_drop, List.append_assoc, hE.out, hTl, show at_ + (q - at_ + ([13] : List UInt8).length) = q + 1 by simp; omega]
                rfl)
              have HX := Lib.hid (show s.extract q (q + 1) = B (lnE (s.data.toList.drop at_)) by rw [← hX 1 (by rw [hE.out]; rfl)])
              clear hl hne hX g1 g2 g3 g4 h1 h2 h3 h4
              go_wp2_with fail
              refine wp_region_pl (fun _ => True) (.one 0 true (.one 1 true (.one 2 true (.one 3 true (.one 4 true (.one 5 true (.one 6 true (.one 7 true (.one 8 true (.one 9 true (.one 10 true (.one 11 true (.one 12 true (.one 13 false (.one 14 false (.one 15 true .nil)))))))))))))))) (by kernel_rfl) (by kernel_rfl) (by kernel_rfl) (Nat.le_of_ble_eq_true rfl) (fun _ _ d _ _ h => by cases d <;> exact h) trivial ?_
              refine' pl_pure rfl (by rfl) _ (fun w hSw => _) _
              rotate_left
              · go_simp
                try with_reducible rfl
              try simp only [Act.put, List.setIfInBounds_toArray, List.set_cons_zero, List.set_cons_succ]
              refine' pl_pure rfl (by rfl) _ (fun w hSw => _) _
              rotate_left
              · go_simp
                try with_reducible rfl
              try simp only [Act.put, List.setIfInBounds_toArray, List.set_cons_zero, List.set_cons_succ]
              refine' pl_pure rfl (by rfl) _ (fun w hSw => _) _
              rotate_left
              · go_simp
                try with_reducible rfl
              try simp only [Act.put, List.setIfInBounds_toArray, List.set_cons_zero, List.set_cons_succ]
              refine' pl_pure rfl (by rfl) _ (fun w hSw => _) _
              rotate_left
              · go_simp
                try with_reducible rfl
              try simp only [Act.put, List.setIfInBounds_toArray, List.set_cons_zero, List.set_cons_succ]
              refine pl_pure rfl (by rfl) (.string (s.extract at_ q)) (fun w hSw => by go_simp; first | done | (rw [if_pos (by omega), if_pos (by omega)])) ?_
              try simp only [Act.put, List.setIfInBounds_toArray, List.set_cons_zero, List.set_cons_succ]
              refine' pl_pure rfl (by rfl) _ (fun w hSw => _) _
              rotate_left
              · go_simp
                try with_reducible rfl
              try simp only [Act.put, List.setIfInBounds_toArray, List.set_cons_zero, List.set_cons_succ]
              refine' pl_pure rfl (by rfl) _ (fun w hSw => _) _
              rotate_left
              · go_simp
                try with_reducible rfl
              try simp only [Act.put, List.setIfInBounds_toArray, List.set_cons_zero, List.set_cons_succ]
              refine' pl_pure rfl (by rfl) _ (fun w hSw => _) _
              rotate_left
              · go_simp
                try with_reducible rfl
              try simp only [Act.put, List.setIfInBounds_toArray, List.set_cons_zero, List.set_cons_succ]
              refine' pl_pure rfl (by rfl) _ (fun w hSw => _) _
              rotate_left
              · go_simp
                try with_reducible rfl
              try simp only [Act.put, List.setIfInBounds_toArray, List.set_cons_zero, List.set_cons_succ]
              refine pl_pure rfl (by rfl) (.int .i64 ((q : Int) + 1)) (fun w hSw => by go_simp; first | done | (rw [IntWalk.i64_in _ (by omega)])) ?_
              try simp only [Act.put, List.setIfInBounds_toArray, List.set_cons_zero, List.set_cons_succ]
              refine pl_pure rfl (by rfl) (.string (s.extract q (q + 1))) (fun w hSw => by go_simp; first | done | (rw [if_pos (by omega), if_pos (by omega)]; done) | (rw [if_pos (by omega)]; done) | (rw [if_pos (by omega), if_pos (by omega), show ((q : Int) + 2).toNat = q + 2 by omega]; done) | (intro h; omega)) ?_
              try simp only [Act.put, List.setIfInBounds_toArray, List.set_cons_zero, List.set_cons_succ]
              refine' pl_pure rfl (by rfl) _ (fun w hSw => _) _
              rotate_left
              · go_simp
                try with_reducible rfl
              try simp only [Act.put, List.setIfInBounds_toArray, List.set_cons_zero, List.set_cons_succ]
              refine' pl_pure rfl (by rfl) _ (fun w hSw => _) _
              rotate_left
              · go_simp
                try with_reducible rfl
              try simp only [Act.put, List.setIfInBounds_toArray, List.set_cons_zero, List.set_cons_succ]
              refine pl_eff (eff_of rfl (by rfl) (fun K hK => ?_))
              go_simp
              go_wp2_with fail
              refine hK.out _ _ trivial ?_
              clear hK K
              try simp only [Act.put, List.setIfInBounds_toArray, List.set_cons_zero, List.set_cons_succ]
              refine pl_eff (eff_of rfl (by rfl) (fun K hK => ?_))
              refine wp_append_own _ _ _ 42 rfl w.heap.size 45 i0 _ 3 40 Tryd.underlying42 hi iz0 iz1 iz2 rfl (by decide) _ done.length _ rfl ((Hown.out.drew).alloc (.cells #[.string (s.extract at_ q), .string (s.extract q (q + 1)), .int .i64 at_] 45)) ⟨wr.drew.heap.size, 0, none⟩ 1 1 [.string (s.extract at_ q), .string (s.extract q (q + 1)), .int .i64 at_] rfl rfl (three_new wr.drew _ _ _ _) (by intro u hu; simp at hu; rcases hu with rfl | rfl | rfl <;> rfl) (by unfold maxLen; omega) (by omega) (by simp; omega) ?_
              intro v' w2 hown2 hg2 h02
              refine hK.out _ _ trivial ?_
              clear hK K
              try simp only [Act.put, List.setIfInBounds_toArray, List.set_cons_zero, List.set_cons_succ]
              refine' pl_pure rfl (by rfl) _ (fun w hSw => _) _
              rotate_left
              · go_simp
                try with_reducible rfl
              try simp only [Act.put, List.setIfInBounds_toArray, List.set_cons_zero, List.set_cons_succ]
              refine pl_nil ?_
              have hB2 := below_grownOwn (hb.drew.alloc (by exact hz) (.cells #[.string (s.extract at_ q), .string (s.extract q (q + 1)), .int .i64 at_] 45)) ((Hown.out.drew).alloc (.cells #[.string (s.extract at_ q), .string (s.extract q (q + 1)), .int .i64 at_] 45)) hg2 (by simp; omega) (Nat.le_refl _)
              have Hown2 := Lib.hid hown2
              clear hown2 hg2 h02
              go_wp2_with fail
              go_roundw
              case rel =>
                refine ⟨done ++ [(lnT (s.data.toList.drop at_), lnE (s.data.toList.drop at_), at_)], q + 1, q + 1, f', by omega, by omega, by go_num, by go_num, Hst.out, by omega, by simp; omega, fun j h1 h2 => absurd h1 (by omega), ?_, fun e => by simp at e, hB2⟩
                have := Hown2.out
                rw [HE1.out, HX.out] at this
                simp only [List.length_append, List.flatMap_append, List.length_cons, List.length_nil, List.flatMap_cons, List.flatMap_nil, List.append_nil, Nat.zero_add]
                exact this
              case measure => simp [intOf]; omega
          · have hE := Lib.hid (g4 hlt e13 (fun h => absurd h hq2))
            clear e13
            have Hst := Lib.hid (show linesL s.data.toList = (done ++ [(lnT (s.data.toList.drop at_), lnE (s.data.toList.drop at_), at_)]) ++ linesF f' (s.data.toList.drop (q + 1)) (q + 1) by
              rw [hl, linesF, if_neg hne, List.drop_drop, List.append_assoc, hE.out, hTl, show at_ + (q - at_ + ([13] : List UInt8).length) = q + 1 by simp; omega]
              rfl)
            have HX := Lib.hid (show s.extract q (q + 1) = B (lnE (s.data.toList.drop at_)) by rw [← hX 1 (by rw [hE.out]; rfl)])
            clear hl hne hX g1 g2 g3 g4 h1 h2 h3 h4
            go_wp2_with fail
            refine wp_region_pl (fun _ => True) (.one 0 true (.one 1 true (.one 2 true (.one 3 true (.one 4 true (.one 5 true (.one 6 true (.one 7 true (.one 8 true (.one 9 true (.one 10 true (.one 11 true (.one 12 true (.one 13 false (.one 14 false (.one 15 true .nil)))))))))))))))) (by kernel_rfl) (by kernel_rfl) (by kernel_rfl) (Nat.le_of_ble_eq_true rfl) (fun _ _ d _ _ h => by cases d <;> exact h) trivial ?_
            refine' pl_pure rfl (by rfl) _ (fun w hSw => _) _
            rotate_left
            · go_simp
              try with_reducible rfl
            try simp only [Act.put, List.setIfInBounds_toArray, List.set_cons_zero, List.set_cons_succ]
            refine' pl_pure rfl (by rfl) _ (fun w hSw => _) _
            rotate_left
            · go_simp
              try with_reducible rfl
            try simp only [Act.put, List.setIfInBounds_toArray, List.set_cons_zero, List.set_cons_succ]
            refine' pl_pure rfl (by rfl) _ (fun w hSw => _) _
            rotate_left
            · go_simp
              try with_reducible rfl
            try simp only [Act.put, List.setIfInBounds_toArray, List.set_cons_zero, List.set_cons_succ]
            refine' pl_pure rfl (by rfl) _ (fun w hSw => _) _
            rotate_left
            · go_simp
              try with_reducible rfl
            try simp only [Act.put, List.setIfInBounds_toArray, List.set_cons_zero, List.set_cons_succ]
            refine pl_pure rfl (by rfl) (.string (s.extract at_ q)) (fun w hSw => by go_simp; first | done | (rw [if_pos (by omega), if_pos (by omega)])) ?_
            try simp only [Act.put, List.setIfInBounds_toArray, List.set_cons_zero, List.set_cons_succ]
            refine' pl_pure rfl (by rfl) _ (fun w hSw => _) _
            rotate_left
            · go_simp
              try with_reducible rfl
            try simp only [Act.put, List.setIfInBounds_toArray, List.set_cons_zero, List.set_cons_succ]
            refine' pl_pure rfl (by rfl) _ (fun w hSw => _) _
            rotate_left
            · go_simp
              try with_reducible rfl
            try simp only [Act.put, List.setIfInBounds_toArray, List.set_cons_zero, List.set_cons_succ]
            refine' pl_pure rfl (by rfl) _ (fun w hSw => _) _
            rotate_left
            · go_simp
              try with_reducible rfl
            try simp only [Act.put, List.setIfInBounds_toArray, List.set_cons_zero, List.set_cons_succ]
            refine' pl_pure rfl (by rfl) _ (fun w hSw => _) _
            rotate_left
            · go_simp
              try with_reducible rfl
            try simp only [Act.put, List.setIfInBounds_toArray, List.set_cons_zero, List.set_cons_succ]
            refine pl_pure rfl (by rfl) (.int .i64 ((q : Int) + 1)) (fun w hSw => by go_simp; first | done | (rw [IntWalk.i64_in _ (by omega)])) ?_
            try simp only [Act.put, List.setIfInBounds_toArray, List.set_cons_zero, List.set_cons_succ]
            refine pl_pure rfl (by rfl) (.string (s.extract q (q + 1))) (fun w hSw => by go_simp; first | done | (rw [if_pos (by omega), if_pos (by omega)]; done) | (rw [if_pos (by omega)]; done) | (rw [if_pos (by omega), if_pos (by omega), show ((q : Int) + 2).toNat = q + 2 by omega]; done) | (intro h; omega)) ?_
            try simp only [Act.put, List.setIfInBounds_toArray, List.set_cons_zero, List.set_cons_succ]
            refine' pl_pure rfl (by rfl) _ (fun w hSw => _) _
            rotate_left
            · go_simp
              try with_reducible rfl
            try simp only [Act.put, List.setIfInBounds_toArray, List.set_cons_zero, List.set_cons_succ]
            refine' pl_pure rfl (by rfl) _ (fun w hSw => _) _
            rotate_left
            · go_simp
              try with_reducible rfl
            try simp only [Act.put, List.setIfInBounds_toArray, List.set_cons_zero, List.set_cons_succ]
            refine pl_eff (eff_of rfl (by rfl) (fun K hK => ?_))
            go_simp
            go_wp2_with fail
            refine hK.out _ _ trivial ?_
            clear hK K
            try simp only [Act.put, List.setIfInBounds_toArray, List.set_cons_zero, List.set_cons_succ]
            refine pl_eff (eff_of rfl (by rfl) (fun K hK => ?_))
            refine wp_append_own _ _ _ 42 rfl w.heap.size 45 i0 _ 3 40 Tryd.underlying42 hi iz0 iz1 iz2 rfl (by decide) _ done.length _ rfl ((Hown.out.drew).alloc (.cells #[.string (s.extract at_ q), .string (s.extract q (q + 1)), .int .i64 at_] 45)) ⟨wr.drew.heap.size, 0, none⟩ 1 1 [.string (s.extract at_ q), .string (s.extract q (q + 1)), .int .i64 at_] rfl rfl (three_new wr.drew _ _ _ _) (by intro u hu; simp at hu; rcases hu with rfl | rfl | rfl <;> rfl) (by unfold maxLen; omega) (by omega) (by simp; omega) ?_
            intro v' w2 hown2 hg2 h02
            refine hK.out _ _ trivial ?_
            clear hK K
            try simp only [Act.put, List.setIfInBounds_toArray, List.set_cons_zero, List.set_cons_succ]
            refine' pl_pure rfl (by rfl) _ (fun w hSw => _) _
            rotate_left
            · go_simp
              try with_reducible rfl
            try simp only [Act.put, List.setIfInBounds_toArray, List.set_cons_zero, List.set_cons_succ]
            refine pl_nil ?_
            have hB2 := below_grownOwn (hb.drew.alloc (by exact hz) (.cells #[.string (s.extract at_ q), .string (s.extract q (q + 1)), .int .i64 at_] 45)) ((Hown.out.drew).alloc (.cells #[.string (s.extract at_ q), .string (s.extract q (q + 1)), .int .i64 at_] 45)) hg2 (by simp; omega) (Nat.le_refl _)
            have Hown2 := Lib.hid hown2
            clear hown2 hg2 h02
            go_wp2_with fail
            go_roundw
            case rel =>
              refine ⟨done ++ [(lnT (s.data.toList.drop at_), lnE (s.data.toList.drop at_), at_)], q + 1, q + 1, f', by omega, by omega, by go_num, by go_num, Hst.out, by omega, by simp; omega, fun j h1 h2 => absurd h1 (by omega), ?_, fun e => by simp at e, hB2⟩
              have := Hown2.out
              rw [HE1.out, HX.out] at this
              simp only [List.length_append, List.flatMap_append, List.length_cons, List.length_nil, List.flatMap_cons, List.flatMap_nil, List.append_nil, Nat.zero_add]
              exact this
            case measure => simp [intOf]; omega
    · have hqe : q = s.size := by omega
      by_cases hat : at_ < s.size
      · have hrl : (s.data.toList.drop at_).length = s.size - at_ := by rw [List.length_drop, hlen]
        have hne : s.data.toList.drop at_ ≠ [] := by intro e; rw [e] at hrl; simp at hrl; omega
        obtain ⟨f', rfl⟩ : ∃ f', f = f' + 1 := ⟨f - 1, by omega⟩
        obtain ⟨n, hnn⟩ : ∃ n, n = (lnT (s.data.toList.drop at_)).length := ⟨_, rfl⟩
        obtain ⟨h1, h2, h3, h4⟩ := nx_facts s at_ n (by omega) hnn
        have hnq : at_ + n = s.size := by
          by_cases e : at_ + n = s.size
          · exact e
          · have a := h3 (by omega)
            have b := hno (at_ + n) (by omega) (by omega) (by omega)
            rcases a with a | a
            · exact absurd a b.1
            · exact absurd a b.2
        obtain ⟨g1, _, _, _⟩ := eol_facts s at_ n hnn
        have hE := g1 hnq
        rw [hnq] at h4
        have HX := Lib.hid h4
        have Hl := Lib.hid (show linesL s.data.toList = done ++ [(lnT (s.data.toList.drop at_), [], at_)] by
          have hdd : (s.data.toList.drop at_).drop ((lnT (s.data.toList.drop at_)).length + ([] : List UInt8).length) = [] := List.drop_of_length_le (by rw [hrl]; simp; omega)
          rw [hl, linesF, if_neg hne, hE, hdd, linesF_nil])
        have Hown := Lib.hid hown
        clear hl hne hno hown h0 h1 h2 h3 h4 g1 hE hnq hnn hqe
        go_wp2_with (at_builtin; refine wpList_append_own _ rfl _ _ 42 rfl w.heap.size 45 i0 _ 3 40 Tryd.underlying42 hi iz0 iz1 iz2 rfl (by decide) _ done.length _ rfl (Hown.out.alloc _) ⟨wr.heap.size, 0, none⟩ 1 1 [.string (s.extract at_ s.size), .string ⟨#[]⟩, .int .i64 at_] rfl rfl ?d1 ?d2 ?d3 ?d4 ?d5 ?_)
        case d1 => exact three_new wr _ _ _ _
        case d2 => intro u hu; simp at hu; rcases hu with rfl | rfl | rfl <;> rfl
        case d3 => unfold maxLen; omega
        case d4 => omega
        case d5 => simp; omega
        intro v3 w3 hown3 hg3 h03
        have hB3 := below_grownOwn (hb.alloc hz (.cells #[.string (s.extract at_ s.size), .string ⟨#[]⟩, .int .i64 at_] 45)) (Hown.out.alloc _) hg3 (by simp; omega) (Nat.le_refl _)
        have Hown3 := Lib.hid hown3
        clear hown3 hg3 h03
        go_wp2_with fail
        show P (.returned v3) _
        rw [← hP]
        refine ⟨_, rfl, ?_, hB3⟩
        rw [Hl.out]
        refine Rows3.of_own (base := w.heap.size) (e := 45) (n := done.length + 1) (by simp) ?_ (fun e => by simp at e)
        have := Hown3.out
        rw [HX.out] at this
        simp only [List.flatMap_append, List.flatMap_cons, List.flatMap_nil, List.append_nil]
        exact this
      · have he : linesL s.data.toList = done := by rw [hl, List.drop_of_length_le (by omega), linesF_nil, List.append_nil]
        have He := Lib.hid he
        have Hown := Lib.hid hown
        have H0 := Lib.hid h0
        have hat2 : ¬ at_ < s.size := hat
        clear hl he hown h0 hno hqe
        go_wp2_with fail
        show P (.returned _) _
        rw [← hP]
        refine ⟨_, rfl, ?_, hb⟩
        rw [He.out]
        exact Rows3.of_own rfl Hown.out H0.out
theorem rpiece_info : (Tryd.prog.info? 55).map (fun i => (i.zero, i.size, i.bytes)) = some (some (.agg #[.bool false, .string ⟨#[]⟩, .string ⟨#[]⟩]), 3, 40) := by kernel_rfl
/-- Put and Write onto a row of the call's own: the row grows by the piece. -/
def PutPost (base : Nat) (_ : Value) (ps : List Pc) (p : Pc) (w0 : World) (e : Ending) (w' : World) : Prop := ∃ v', e = .returned v' ∧ w'.ownsRow base 55 3 v' (ps.length + 1) ((ps ++ [p]).flatMap pcV) ∧ (∀ B, B ≤ base → Below B w0 w')
theorem Put_any (base : Nat) (v : Value) (ps : List Pc) (s : ByteArray) (w : World) (hown : w.ownsRow base 55 3 v ps.length (ps.flatMap pcV)) (hb : base ≤ w.heap.size) (hn : ps.length ≤ 1000000) :
    Calls Tryd.prog 16 #[v, .string s] w (PutPost base v ps (mk s.data.toList) w) := by
  generalize hP : PutPost base v ps (mk s.data.toList) w = P at *
  obtain ⟨i0, hi, iz0, iz1, iz2⟩ := info_parts rpiece_info
  have Hown := Lib.hid hown
  clear hown
  go_enter Tryd.func16, Tryd.ntmps16
  go_wp2_with (at_builtin; refine wpList_append_own _ rfl _ _ 29 rfl base 55 i0 _ 3 40 Tryd.underlying29 hi iz0 iz1 iz2 rfl (by decide) _ ps.length _ rfl (Hown.out.alloc _) ⟨w.heap.size, 0, none⟩ 1 1 [.bool true, .string ⟨#[109, 97, 114, 107]⟩, .string s] rfl rfl ?d1 ?d2 ?d3 ?d4 ?d5 ?_)
  case d1 => exact three_new w _ _ _ _
  case d2 => intro u hu; simp at hu; rcases hu with rfl | rfl | rfl <;> rfl
  case d3 => unfold maxLen; omega
  case d4 => omega
  case d5 => simp; omega
  intro v3 w3 hown3 hg3 h03
  have hB3 := fun B (hB : B ≤ base) => below_grownOwn ((Below.refl B w).alloc (Nat.le_trans hB hb) (.cells #[.bool true, .string ⟨#[109, 97, 114, 107]⟩, .string s] 55)) (Hown.out.alloc _) hg3 (by simp; omega) hB
  have Hown3 := Lib.hid hown3
  have HB3 := Lib.hid hB3
  clear hown3 hg3 h03 hB3
  go_wp2_with fail
  show P (.returned v3) _
  rw [← hP]
  refine ⟨_, rfl, ?_, HB3.out⟩
  have := Hown3.out
  simp only [List.flatMap_append, List.flatMap_cons, List.flatMap_nil, List.append_nil]
  rw [show pcV (mk s.data.toList) = [.bool true, .string ⟨#[109, 97, 114, 107]⟩, .string s] by unfold pcV mk; rw [← B_of]; rfl]
  exact this
theorem Write_any (base : Nat) (v : Value) (ps : List Pc) (m s : ByteArray) (w : World) (hown : w.ownsRow base 55 3 v ps.length (ps.flatMap pcV)) (hb : base ≤ w.heap.size) (hn : ps.length ≤ 1000000) :
    Calls Tryd.prog 15 #[v, .string m, .string s] w (PutPost base v ps (false, m.data.toList, s.data.toList) w) := by
  generalize hP : PutPost base v ps (false, m.data.toList, s.data.toList) w = P at *
  obtain ⟨i0, hi, iz0, iz1, iz2⟩ := info_parts rpiece_info
  have Hown := Lib.hid hown
  clear hown
  go_enter Tryd.func15, Tryd.ntmps15
  go_wp2_with (at_builtin; refine wpList_append_own _ rfl _ _ 29 rfl base 55 i0 _ 3 40 Tryd.underlying29 hi iz0 iz1 iz2 rfl (by decide) _ ps.length _ rfl (Hown.out.alloc _) ⟨w.heap.size, 0, none⟩ 1 1 [.bool false, .string m, .string s] rfl rfl ?d1 ?d2 ?d3 ?d4 ?d5 ?_)
  case d1 => exact three_new w _ _ _ _
  case d2 => intro u hu; simp at hu; rcases hu with rfl | rfl | rfl <;> rfl
  case d3 => unfold maxLen; omega
  case d4 => omega
  case d5 => simp; omega
  intro v3 w3 hown3 hg3 h03
  have hB3 := fun B (hB : B ≤ base) => below_grownOwn ((Below.refl B w).alloc (Nat.le_trans hB hb) (.cells #[.bool false, .string m, .string s] 55)) (Hown.out.alloc _) hg3 (by simp; omega) hB
  have Hown3 := Lib.hid hown3
  have HB3 := Lib.hid hB3
  clear hown3 hg3 h03 hB3
  go_wp2_with fail
  show P (.returned v3) _
  rw [← hP]
  refine ⟨_, rfl, ?_, HB3.out⟩
  have := Hown3.out
  simp only [List.flatMap_append, List.flatMap_cons, List.flatMap_nil, List.append_nil]
  rw [show pcV (false, m.data.toList, s.data.toList) = [.bool false, .string m, .string s] by unfold pcV; rw [← B_of, ← B_of]]
  exact this
end Go.Proofs.YtlcgfgbdehdndaaDoor
