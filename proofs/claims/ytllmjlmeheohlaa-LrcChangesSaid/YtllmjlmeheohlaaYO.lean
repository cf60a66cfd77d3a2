/- Contract of the document's Pieces (chapter 26): it tells what lrc.Pieces tells; condition: at most 100,000 bytes. -/
import Derived.Test.YtllmjlmeheohlaaYN
set_option maxRecDepth 100000
set_option maxHeartbeats 1000000
namespace Go.Proofs.Ytllmjlmeheohlaa
open Go Go.RowKit

theorem timesF_go {f : Nat} {r : List UInt8} (h : timeN r ≠ 0) : timesF (f + 1) r = (mk (r.take (timeN r)) :: (timesF f (r.drop (timeN r))).1, (timesF f (r.drop (timeN r))).2) := by
  rw [timesF, if_neg h]
def RpRel (t : List UInt8) (w0 : World) (v i : Value) (wr : World) : Prop := ∃ (acc : List Pc) (k f : Nat), k ≤ t.length ∧ i = .int .i64 k ∧ timesF t.length t = (acc ++ (timesF f (t.drop k)).1, (timesF f (t.drop k)).2) ∧ t.length - k ≤ f ∧ acc.length ≤ k ∧ (acc = [] → k = 0) ∧ wr.ownsRow w0.heap.size 55 3 v acc.length (acc.flatMap pcV) ∧ (acc = [] → v = .slice none 0 0) ∧ Below w0.heap.size w0 wr
def RnRel (m : Nat) (w0 : World) (i : Value) (wr : World) : Prop := ∃ k : Nat, k ≤ m ∧ i = .int .i64 ((1 + k : Nat) : Int) ∧ Below w0.heap.size w0 wr
def RiRel (s : ByteArray) (n : Nat) (w0 : World) (i : Value) (wr : World) : Prop := ∃ k : Nat, n ≤ k ∧ k ≤ s.size ∧ i = .int .i64 (k : Int) ∧ (∀ j, n ≤ j → j < k → ∀ h : j < s.size, j + 1 < s.size → s[j] ≠ 93) ∧ Below w0.heap.size w0 wr
/-- What the document asks of a note whose name has m letters. -/
def NoteC (s : ByteArray) (m : Nat) : Prop := (∃ h : 0 < s.size, s[0] = 91) ∧ m ≠ 0 ∧ (∃ h : 1 + m < s.size, s[1 + m] = 58) ∧ (∀ j, 1 + m ≤ j → ∀ h : j < s.size, j + 1 < s.size → s[j] ≠ 93) ∧ (∃ h : s.size - 1 < s.size, s[s.size - 1] = 93)
/-- The name's end, and what the note asks. -/
theorem note_facts (s : ByteArray) (h0 : 0 < s.size) : ∃ m : Nat, 1 + m ≤ s.size ∧ nmN s.data.toList = 1 + m ∧ (∀ k, k < m → ∀ h : 1 + k < s.size, decide ((97 : Int) ≤ (s[1 + k]).toNat) = true ∧ decide (((s[1 + k]).toNat : Int) ≤ 122) = true) ∧ (∀ h : 1 + m < s.size, (decide ((97 : Int) ≤ (s[1 + m]).toNat) && decide (((s[1 + m]).toNat : Int) ≤ 122)) = false) ∧
    (NoteC s m → noteL s.data.toList = some [mk (s.data.toList.take (1 + m + 1)), (false, (s.data.toList.take (1 + m)).drop 1, (s.data.toList.take (s.size - 1)).drop (1 + m + 1)), mk [93]]) ∧ (¬ NoteC s m → noteL s.data.toList = none) := by
  have hlen := len_data s
  suffices hh : ∃ m : Nat, m = ((s.data.toList.drop 1).takeWhile smB).length ∧ (NoteC s m ↔ (s.data.toList.take 1 = [91] ∧ Lib.indexByte s.data.toList 93 = (s.size : Int) - 1 ∧ 1 + m ≠ 1 ∧ s.data.toList[1 + m]? = some 58)) by
    obtain ⟨m, hm, hC⟩ := hh
    have hnm : nmN s.data.toList = 1 + m := by unfold nmN; rw [hm]
    refine ⟨m, ?_, hnm, ?_, ?_, ?_, ?_⟩
    · have := tw_le smB (s.data.toList.drop 1)
      rw [List.length_drop, hlen] at this
      omega
    · intro k hk h
      have := tw_in smB (s.data.toList.drop 1) k (by rw [List.length_drop, hlen]; omega) (by omega)
      rw [drop_get s 1 k (by rw [List.length_drop, hlen]; omega) h, sm_split] at this
      simpa using this
    · subst hm
      intro h
      have := tw_out smB (s.data.toList.drop 1) (by rw [List.length_drop, hlen]; omega)
      rw [drop_get s 1 _ (by rw [List.length_drop, hlen]; omega) h, sm_split] at this
      exact this
    · intro h
      unfold noteL
      rw [hnm, hlen, if_pos (hC.1 h)]
    · intro h
      unfold noteL
      rw [hnm, hlen, if_neg (fun e => h (hC.2 e))]
  obtain ⟨m, hm⟩ : ∃ m, m = ((s.data.toList.drop 1).takeWhile smB).length := ⟨_, rfl⟩
  refine ⟨m, hm, ?_⟩
  have hin : ∀ k, k < m → ∀ h : 1 + k < s.size, s[1 + k] ≠ 93 := fun k hk h e => by
    have := tw_in smB (s.data.toList.drop 1) k (by rw [List.length_drop, hlen]; omega) (by omega)
    rw [drop_get s 1 k (by rw [List.length_drop, hlen]; omega) h, e] at this
    exact absurd this (by decide)
  have hnm : nmN s.data.toList = 1 + m := by unfold nmN; rw [hm]
  constructor
  · rintro ⟨⟨_, a⟩, b, ⟨c, c2⟩, d, ⟨_, e⟩⟩
    have hi : Lib.indexByte s.data.toList 93 = ((s.size - 1 : Nat) : Int) := idx_uniq 93 _ _ ((get_eq s _ (by omega) 93).2 e) (fun j hj e2 => by
      have e3 := (get_eq s j (by omega) 93).1 e2
      by_cases j0 : j = 0
      · subst j0; rw [a] at e3; exact absurd e3 (by decide)
      · by_cases j1 : j < 1 + m
        · have := hin (j - 1) (by omega) (by omega)
          have e4 : 1 + (j - 1) = j := by omega
          simp only [e4] at this
          exact this e3
        · exact d j (by omega) (by omega) (by omega) e3)
    exact ⟨(take1_eq s h0 91).2 a, by rw [hi]; omega, by omega, (get_eq s _ c 58).2 c2⟩
  · rintro ⟨hp, b, c, d⟩
    obtain ⟨g1, g2, g3⟩ := idx_last hp (by rw [b, hlen])
    rw [hlen] at g1 g2 g3
    rw [hnm] at g3
    have hg := (idx_get 93 s.data.toList (by omega)).2
    exact ⟨⟨h0, (take1_eq s h0 91).1 hp⟩, by omega, ⟨by omega, (get_eq s _ (by omega) 58).1 d⟩, fun j h1 h2 h3 e => hg j (by omega) ((get_eq s j h2 93).2 e), ⟨by omega, (get_eq s _ (by omega) 93).1 g2⟩⟩
theorem RPieces_any (s : ByteArray) (hs : s.size ≤ 100000) (w : World) :
    Calls Try.prog 11 #[.string s] w (PcPost lrcL s.data.toList w) := by
  generalize hP : PcPost lrcL s.data.toList w = P at *
  have hlen := len_data s
  by_cases hne : s.size = 0
  · have hE : s.data.toList = [] := List.eq_nil_of_length_eq_zero (by omega)
    have hem : s.toList.isEmpty = true := by rw [ByteArray.toList_eq, hE]; rfl
    have Hr := Lib.hid (show lrcL s.data.toList = some [] by rw [hE]; rfl)
    clear hE hne hlen
    go_enter Try.func11, Try.ntmps11
    go_wp2_with fail
    show P (.returned (.tuple #[.slice none 0 0, .bool true])) _
    rw [← hP]
    exact ⟨_, by rw [Hr.out]; rfl, by rw [Hr.out]; exact .inl ⟨rfl, rfl⟩, Below.refl _ _⟩
  · have hem : s.toList.isEmpty = false := by
      rw [ByteArray.toList_eq]
      generalize s.data.toList = l at *
      cases l with
      | nil => simp at hlen; omega
      | cons _ _ => rfl
    have hE : s.data.toList ≠ [] := by intro e; rw [e] at hlen; simp at hlen; omega
    have hL : lrcL s.data.toList = if (timesF s.data.toList.length s.data.toList).1 = [] then noteL s.data.toList else some ((timesF s.data.toList.length s.data.toList).1 ++ tailP (timesF s.data.toList.length s.data.toList).2) := by
      unfold lrcL; rw [if_neg hE]
    have HL := Lib.hid hL
    clear hL hE
    go_enter Try.func11, Try.ntmps11
    go_wp2_with fail
    go_loopw [4, 5] (fun v i wr => RpRel s.data.toList w v i wr) (fun _ i _ => s.size - (intOf i).toNat)
    case atStart => exact ⟨[], 0, s.data.toList.length, by omega, rfl, by simp, by omega, by simp, fun _ => rfl, ⟨rfl, .inl ⟨rfl, rfl⟩⟩, fun _ => rfl, Below.refl _ _⟩
    case round =>
      obtain ⟨acc, k, f, hk, rfl, htf, hf, ha, hak, hown, h0, hb⟩ := hrel
      rw [hlen] at hk hf
      have hz0 := hb.size
      have hrng := timeN_rng (s.data.toList.drop k)
      rw [List.length_drop, hlen] at hrng
      have htm := fun w => time_any (s.extract k s.size) (by simp; omega) w
      rw [ext_data, List.take_of_length_le (by omega)] at htm
      by_cases hz : timeN (s.data.toList.drop k) = 0
      · have htf2 := htf
        rw [timesF_end f _ hz, List.append_nil] at htf2
        have Htf := Lib.hid htf2
        rw [hz] at htm
        have hk0 : k = 0 ∨ 0 < k := by omega
        have hz2 := hz
        clear htf htf2 hz hrng
        rcases hk0 with rfl | hkp
        · have hacc : acc = [] := List.eq_nil_of_length_eq_zero (by omega)
          have hv := h0 hacc
          have Hres := Lib.hid (show lrcL s.data.toList = noteL s.data.toList by rw [HL.out, Htf.out, if_pos hacc])
          subst hv
          have htm0 := fun w => time_any s hs w
          have hz00 : timeN s.data.toList = 0 := hz2
          rw [hz00] at htm0
          clear HL Htf h0 hown hak hacc ha htm hz00 hz2
          go_wp2_with (go_at_call 32; refine (htm0 _).mono ?_; rintro e w2 ⟨rfl, hb2⟩; have hB2 := hb.trans (hb2.mono hb.size))
          clear htm0
          obtain ⟨m, hmle, _, hin, hout, hyes, hnn⟩ := note_facts s (by omega)
          have hnoP : ¬ NoteC s m → ∀ w', Below w.heap.size w w' → P (.returned (.tuple #[.slice none 0 0, .bool false])) w' := fun h w' hb => by
            rw [← hP]
            exact ⟨_, by rw [Hres.out, hnn h]; rfl, by rw [Hres.out, hnn h]; exact .inl ⟨rfl, rfl⟩, hb⟩
          have Hin := Lib.hid hin
          have Hout := Lib.hid hout
          have Hyes := Lib.hid hyes
          have HnoP := Lib.hid hnoP
          clear hin hout hyes hnn hnoP hb hb2 hz0 hf hk
          go_loopw [7] (fun i wr => RnRel m w i wr) (fun i _ => s.size - (intOf i).toNat)
          case atStart => exact ⟨0, by omega, rfl, hB2⟩
          case round =>
            obtain ⟨k, hk, rfl, hbr⟩ := hrel
            by_cases hkm : k < m
            · have hks2 : 1 + k < s.size := by omega
              obtain ⟨a1, a2⟩ := Hin.out k hkm hks2
              go_wp2_with fail
              go_roundw
              case rel => exact ⟨k + 1, by omega, by go_num, hbr⟩
              case measure => simp [intOf]; omega
            · have hk2 : k = m := by omega
              subst hk2
              clear hkm
              have hs0 : 0 < s.size := by omega
              by_cases hA : s[0] = 91
              · have c0 : ((s[0].toNat : Int) != 91) = false := by rw [hA]; rfl
                by_cases hB : k = 0
                · have Hn := Lib.hid (HnoP.out (fun h => h.2.1 hB))
                  by_cases hks : 1 + k < s.size
                  · cases hd : decide ((97 : Int) ≤ (s[1 + k]).toNat)
                    · subst hB
                      go_wp2_with fail
                      exact Hn.out _ hbr
                    · have hd2 : decide (((s[1 + k]).toNat : Int) ≤ 122) = false := by
                        have := Hout.out hks
                        rw [hd] at this
                        simpa using this
                      subst hB
                      go_wp2_with fail
                      exact Hn.out _ hbr
                  · subst hB
                    go_wp2_with fail
                    exact Hn.out _ hbr
                · have hn2 : ¬ (1 + (k : Int) < 2) := by omega
                  by_cases hks : 1 + k < s.size
                  · by_cases h58 : s[1 + k] = 58
                    · have hd : decide ((97 : Int) ≤ (s[1 + k]).toNat) = false := by rw [h58]; rfl
                      have c58 : (((s[1 + k]).toNat : Int) != 58) = false := by rw [h58]; rfl
                      have hnge : ¬ ((s.size : Int) ≤ 1 + (k : Int)) := by omega
                      have hC : (∀ j, 1 + k ≤ j → ∀ h : j < s.size, j + 1 < s.size → s[j] ≠ 93) → s[s.size - 1] = 93 → NoteC s k := fun h1 h2 => ⟨⟨hs0, hA⟩, hB, ⟨hks, h58⟩, h1, ⟨by omega, h2⟩⟩
                      have hN1 : ∀ j, 1 + k ≤ j → ∀ h : j < s.size, j + 1 < s.size → s[j] = 93 → ¬ NoteC s k := fun j h1 h2 h3 e h => h.2.2.2.1 j h1 h2 h3 e
                      have hN2 : s[s.size - 1] ≠ 93 → ¬ NoteC s k := fun e h => by obtain ⟨_, e2⟩ := h.2.2.2.2; exact e e2
                      have HC := Lib.hid hC
                      have HN1 := Lib.hid hN1
                      have HN2 := Lib.hid hN2
                      clear hC hN1 hN2 h58
                      go_wp2_with fail
                      go_loopw [8] (fun i wr => RiRel s (1 + k) w i wr) (fun i _ => s.size - (intOf i).toNat)
                      case atStart => exact ⟨1 + k, by omega, by omega, by go_num, fun j h1 h2 => by omega, hbr⟩
                      case round =>
                        obtain ⟨q, hq1, hq2, rfl, hno, hbq⟩ := hrel
                        by_cases hqs : q < s.size
                        · by_cases e93 : s[q] = 93
                          · have c93 : ((s[q].toNat : Int) == 93) = true := by rw [e93]; rfl
                            by_cases hql : q + 1 < s.size
                            · have hdl : decide ((q : Int) < (s.size : Int) - 1) = true := by simp; omega
                              have Hn := Lib.hid (HnoP.out (HN1.out q hq1 hqs hql e93))
                              clear hno e93
                              go_wp2_with fail
                              exact Hn.out _ hbq
                            · have hdl : decide ((q : Int) < (s.size : Int) - 1) = false := by simp; omega
                              have Hno := Lib.hid hno
                              clear hno e93
                              go_wp2_with fail
                              go_roundw
                              case rel => exact ⟨q + 1, by omega, by omega, by go_num, fun j h1 h2 h3 h4 => Hno.out j h1 (by omega) h3 h4, hbq⟩
                              case measure => simp [intOf]; omega
                          · have c93 : ((s[q].toNat : Int) == 93) = false := (ne_int (n := 93) (u8_ne e93)).2
                            have Hno := Lib.hid hno
                            clear hno
                            go_wp2_with fail
                            go_roundw
                            case rel =>
                              refine ⟨q + 1, by omega, by omega, by go_num, fun j h1 h2 h3 h4 => ?_, hbq⟩
                              by_cases e : j = q
                              · subst e; exact e93
                              · exact Hno.out j h1 (by omega) h3 h4
                            case measure => simp [intOf]; omega
                        · have hqe : q = s.size := by omega
                          have hls : s.size - 1 < s.size := by omega
                          have hl1 : ((s.size : Int) - 1).toNat = s.size - 1 := by omega
                          have Hno := Lib.hid (show ∀ j, 1 + k ≤ j → ∀ h : j < s.size, j + 1 < s.size → s[j] ≠ 93 from fun j h1 h2 h3 => hno j h1 (by omega) h2 h3)
                          clear hno hqe
                          by_cases e93 : s[s.size - 1] = 93
                          · have c93 : (((s[s.size - 1]).toNat : Int) != 93) = false := by rw [e93]; rfl
                            have Hr := Lib.hid (Hyes.out (HC.out Hno.out e93))
                            have hq4 : 1 + k + 1 < s.size := by
                              by_cases e : 1 + k = s.size - 1
                              · have := hd
                                simp only [e] at this
                                rw [e93] at this
                                simp only [e] at c58
                                rw [e93] at c58
                                exact absurd c58 (by decide)
                              · omega
                            clear e93
                            have hz1 := hbq.size
                            go_wp2_with (go_at_call 33; refine (Put_any w.heap.size (.slice none 0 0) [] (s.extract 0 (1 + k + 1)) _ ⟨rfl, .inl ⟨rfl, rfl⟩⟩ hz1 (by simp)).mono ?_; rintro e wa ⟨va, rfl, howna, hba⟩)
                            have hBa := hbq.trans (hba _ (Nat.le_refl _))
                            have Howna := Lib.hid howna
                            clear hba howna hbq
                            have hza := hBa.size
                            go_wp2_with fail
                            refine wp_region_pl (fun _ => True) (.one 0 true (.one 1 true (.one 2 true (.one 3 true (.one 4 true (.one 5 true (.one 6 true (.one 7 true (.one 8 true (.one 9 true (.one 10 true (.one 11 false (.one 12 true .nil))))))))))))) (by kernel_rfl) (by kernel_rfl) (by kernel_rfl) (Nat.le_of_ble_eq_true rfl) (fun _ _ d _ _ h => by cases d <;> exact h) trivial ?_
                            refine' pl_pure rfl (by rfl) _ (fun w hSw => _) _
                            rotate_left
                            · go_simp
                              try with_reducible rfl
                            try simp only [Act.put, List.setIfInBounds_toArray, List.set_cons_zero, List.set_cons_succ]
                            refine' pl_pure rfl (by rfl) _ (fun w hSw => _) _
                            rotate_left
                            · go_simp
                              try with_reducible rfl
                            try simp only [Act.put, List.setIfInBounds_toArray, List.set_cons_zero, List.set_cons_succ]
                            refine' pl_pure rfl (by rfl) _ (fun w hSw => _) _
                            rotate_left
                            · go_simp
                              try with_reducible rfl
                            try simp only [Act.put, List.setIfInBounds_toArray, List.set_cons_zero, List.set_cons_succ]
                            refine pl_pure rfl (by rfl) (.string (s.extract 1 (1 + k))) (fun w hSw => by go_simp; rw [if_pos (by omega), if_pos (by omega), show (1 + (k : Int)).toNat = 1 + k by omega]) ?_
                            try simp only [Act.put, List.setIfInBounds_toArray, List.set_cons_zero, List.set_cons_succ]
                            refine' pl_pure rfl (by rfl) _ (fun w hSw => _) _
                            rotate_left
                            · go_simp
                              try with_reducible rfl
                            try simp only [Act.put, List.setIfInBounds_toArray, List.set_cons_zero, List.set_cons_succ]
                            refine' pl_pure rfl (by rfl) _ (fun w hSw => _) _
                            rotate_left
                            · go_simp
                              try with_reducible rfl
                            try simp only [Act.put, List.setIfInBounds_toArray, List.set_cons_zero, List.set_cons_succ]
                            refine pl_pure rfl (by rfl) (.int .i64 (1 + (k : Int) + 1)) (fun w hSw => by go_simp; first | done | (rw [IntWalk.i64_in _ (by omega)])) ?_
                            try simp only [Act.put, List.setIfInBounds_toArray, List.set_cons_zero, List.set_cons_succ]
                            refine' pl_pure rfl (by rfl) _ (fun w hSw => _) _
                            rotate_left
                            · go_simp
                              try with_reducible rfl
                            try simp only [Act.put, List.setIfInBounds_toArray, List.set_cons_zero, List.set_cons_succ]
                            refine' pl_pure rfl (by rfl) _ (fun w hSw => _) _
                            rotate_left
                            · go_simp
                              try with_reducible rfl
                            try simp only [Act.put, List.setIfInBounds_toArray, List.set_cons_zero, List.set_cons_succ]
                            refine pl_pure rfl (by rfl) (.int .i64 ((s.size : Int) - 1)) (fun w hSw => by go_simp; first | done | (rw [IntWalk.i64_in _ (by omega)])) ?_
                            try simp only [Act.put, List.setIfInBounds_toArray, List.set_cons_zero, List.set_cons_succ]
                            refine pl_pure rfl (by rfl) (.string (s.extract (1 + k + 1) (s.size - 1))) (fun w hSw => by go_simp; rw [if_pos (by omega), if_pos (by omega), show (1 + (k : Int) + 1).toNat = 1 + k + 1 by omega]) ?_
                            try simp only [Act.put, List.setIfInBounds_toArray, List.set_cons_zero, List.set_cons_succ]
                            refine pl_eff (eff_of rfl (by rfl) (fun K hK => ?_))
                            go_simp
                            refine (Write_any w.heap.size va ([] ++ [mk (s.extract 0 (1 + k + 1)).data.toList]) (s.extract 1 (1 + k)) (s.extract (1 + k + 1) (s.size - 1)) _ (Howna.out.drew) (by exact hza) (by simp)).mono ?_
                            rintro e wb ⟨vb, rfl, hownb, hbb⟩
                            have hBb := hBa.drew.trans (hbb _ (Nat.le_refl _))
                            have Hownb := Lib.hid hownb
                            clear hbb hownb
                            have hzb := hBb.size
                            go_wp2_with fail
                            refine hK.out _ _ trivial ?_
                            clear hK K
                            try simp only [Act.put, List.setIfInBounds_toArray, List.set_cons_zero, List.set_cons_succ]
                            refine' pl_pure rfl (by rfl) _ (fun w hSw => _) _
                            rotate_left
                            · go_simp
                              try with_reducible rfl
                            try simp only [Act.put, List.setIfInBounds_toArray, List.set_cons_zero, List.set_cons_succ]
                            refine pl_nil ?_
                            go_wp2_with (go_at_call 33; refine (Put_any w.heap.size vb ([] ++ [mk (s.extract 0 (1 + k + 1)).data.toList] ++ [(false, (s.extract 1 (1 + k)).data.toList, (s.extract (1 + k + 1) (s.size - 1)).data.toList)]) ⟨#[93]⟩ _ Hownb.out hzb (by simp)).mono ?_; rintro e wc ⟨vc, rfl, hownc, hbc⟩)
                            show P (.returned (.tuple #[vc, .bool true])) _
                            rw [← hP]
                            refine ⟨vc, by rw [Hres.out, Hr.out]; rfl, ?_, hBb.trans (hbc _ (Nat.le_refl _))⟩
                            rw [Hres.out, Hr.out]
                            refine Rows3.of_own (base := w.heap.size) (e := 55) (n := 3) (by simp) ?_ (fun e => by simp at e)
                            have := hownc
                            rw [ext_data, ext_data, ext_data, List.drop_zero] at this
                            exact this
                          · have c93 : (((s[s.size - 1]).toNat : Int) != 93) = true := (ne_int (n := 93) (u8_ne e93)).1
                            have Hn := Lib.hid (HnoP.out (HN2.out e93))
                            clear e93
                            go_wp2_with fail
                            exact Hn.out _ hbq
                    · have c58 : (((s[1 + k]).toNat : Int) != 58) = true := (ne_int (n := 58) (u8_ne h58)).1
                      have Hn := Lib.hid (HnoP.out (fun h => by obtain ⟨_, e⟩ := h.2.2.1; exact h58 e))
                      have hnge : ¬ ((s.size : Int) ≤ 1 + (k : Int)) := by omega
                      clear h58
                      cases hd : decide ((97 : Int) ≤ (s[1 + k]).toNat)
                      · go_wp2_with fail
                        exact Hn.out _ hbr
                      · have hd2 : decide (((s[1 + k]).toNat : Int) ≤ 122) = false := by
                          have := Hout.out hks
                          rw [hd] at this
                          simpa using this
                        go_wp2_with fail
                        exact Hn.out _ hbr
                  · have Hn := Lib.hid (HnoP.out (fun h => by obtain ⟨e, _⟩ := h.2.2.1; exact hks e))
                    go_wp2_with fail
                    exact Hn.out _ hbr
              · have c0 : ((s[0].toNat : Int) != 91) = true := (ne_int (n := 91) (u8_ne hA)).1
                have Hn := Lib.hid (HnoP.out (fun h => by obtain ⟨_, e⟩ := h.1; exact hA e))
                clear hA
                by_cases hks : 1 + k < s.size
                · cases hd : decide ((97 : Int) ≤ (s[1 + k]).toNat)
                  · go_wp2_with fail
                    exact Hn.out _ hbr
                  · have hd2 : decide (((s[1 + k]).toNat : Int) ≤ 122) = false := by
                      have := Hout.out hks
                      rw [hd] at this
                      simpa using this
                    go_wp2_with fail
                    exact Hn.out _ hbr
                · go_wp2_with fail
                  exact Hn.out _ hbr
        · have hacc : acc ≠ [] := fun e => by have := hak e; omega
          have hln : 0 < acc.length := List.length_pos_iff.2 hacc
          have Hres := Lib.hid (show lrcL s.data.toList = some (acc ++ tailP (s.data.toList.drop k)) by rw [HL.out, Htf.out, if_neg hacc])
          have Hown := Lib.hid hown
          have hkne : 0 < k := hkp
          clear HL Htf h0 hak hown hz2
          by_cases hks : k < s.size
          · have hx : s.extract k s.size = B (s.data.toList.drop k) := by rw [exB, List.take_of_length_le (by omega)]
            have hre : s.data.toList.drop k ≠ [] := fun e => by have := congrArg List.length e; simp at this; omega
            have Hx := Lib.hid hx
            have Hre := Lib.hid hre
            clear hx hre
            go_wp2_with (first | (go_at_call 32; refine (htm _).mono ?_; rintro e w2 ⟨rfl, hb2⟩; have hB2 := hb.trans (hb2.mono hb.size); have hz2 := hB2.size; have hown2 := own_below Hown.out hb2) | (go_at_call 34; refine (Write_any w.heap.size _ acc ⟨#[116, 101, 120, 116]⟩ (s.extract k s.size) _ hown2 hz2 (by omega)).mono ?_; rintro e w3 ⟨v3, rfl, hown3, hb3⟩; have hB3 := hB2.trans (hb3 _ (Nat.le_refl _))))
            show P (.returned (.tuple #[v3, .bool true])) _
            rw [← hP]
            refine ⟨v3, by rw [Hres.out]; rfl, ?_, hB3⟩
            rw [Hres.out]
            have e : tailP (s.data.toList.drop k) = [(false, nText, s.data.toList.drop k)] := if_neg Hre.out
            rw [e]
            rw [ext_data, List.take_of_length_le (by omega)] at hown3
            exact Rows3.of_own (base := w.heap.size) (e := 55) (n := acc.length + 1) (by simp) hown3 (fun e => by simp at e)
          · have hke : k = s.size := by omega
            have hre : s.data.toList.drop k = [] := List.drop_of_length_le (by omega)
            have Hre := Lib.hid hre
            obtain ⟨A, c, rfl, hc, hrd⟩ := Reads.of_own Hown.out
            clear hre hrd
            have htm2 : ∀ w, Calls Try.prog 32 #[.string (s.extract k s.size)] w fun e w' => e = .returned (.int .i64 0) ∧ Below w.heap.size w w' := htm
            clear htm
            clear hke
            go_wp2_with (first | (go_at_call 32; refine (htm2 _).mono ?_; rintro e w2 ⟨rfl, hb2⟩; have hB2 := hb.trans (hb2.mono hb.size); have hz2 := hB2.size; have hown2 := Lib.hid (own_below Hown.out hb2)))
            show P (.returned (.tuple #[.slice A acc.length c, .bool true])) _
            rw [← hP]
            refine ⟨_, by rw [Hres.out]; rfl, ?_, hB2⟩
            rw [Hres.out, Hre.out]
            simp only [tailP, if_true, List.append_nil, Option.getD_some]
            exact Rows3.of_own rfl hown2.out (fun e => absurd e hacc)
      · obtain ⟨f', rfl⟩ : ∃ f', f = f' + 1 := ⟨f - 1, by omega⟩
        have htf2 : timesF s.data.toList.length s.data.toList = ((acc ++ [mk ((s.data.toList.drop k).take (timeN (s.data.toList.drop k)))]) ++ (timesF f' (s.data.toList.drop (k + timeN (s.data.toList.drop k)))).1, (timesF f' (s.data.toList.drop (k + timeN (s.data.toList.drop k)))).2) := by
          rw [htf, timesF_go hz, List.append_assoc, List.drop_drop]; rfl
        have hx := ext_take s k (timeN (s.data.toList.drop k))
        have HT := Lib.hid htf2
        have HX := Lib.hid hx
        have Hown := Lib.hid hown
        clear htf htf2 hx hown h0 hak
        by_cases hk0 : k = 0
        · have htm0 := fun w => time_any s hs w
          have e0 : s.data.toList.drop k = s.data.toList := by rw [hk0, List.drop_zero]
          rw [e0] at HT HX hrng hz
          clear htm e0
          generalize timeN s.data.toList = n at *
          subst hk0
          rw [Nat.zero_add] at HX HT
          have hnn : 7 ≤ n ∧ n ≤ 11 ∧ n ≤ s.size := by omega
          obtain ⟨n1, n2, n3⟩ := hnn
          clear hrng hz
          have tok1 : True := trivial
          go_wp2_with (first | (go_at_call 32; have _t := tok1; refine (htm0 _).mono ?_; rintro e w2 ⟨rfl, hb2⟩; have hB2 := hb.trans (hb2.mono hb.size); have hz2 := hB2.size; have hown2 := Lib.hid (own_below Hown.out hb2); clear tok1 _t) | (go_at_call 32; refine (htm0 _).mono ?_; rintro e w3 ⟨rfl, hb3⟩; have hB3 := hB2.trans (hb3.mono hz2); have hz3 := hB3.size; have hown3 := Lib.hid (own_below hown2.out hb3)) | (go_at_call 33; refine (Put_any w.heap.size _ acc (s.extract 0 n) _ hown3.out hz3 (by omega)).mono ?_; rintro e w4 ⟨v4, rfl, hown4, hb4⟩; have hB4 := hB3.trans (hb4 _ (Nat.le_refl _)); have Hown4 := Lib.hid hown4; clear hown4 hb4))
          go_roundw
          case rel =>
            refine ⟨acc ++ [mk ((s.data.toList.drop 0).take n)], n, f', by omega, by go_num, HT.out, by omega, by simp; omega, fun e => by simp at e, ?_, fun e => by simp at e, hB4⟩
            have := Hown4.out
            rw [HX.out, B_data] at this
            simp only [List.length_append, List.length_cons, List.length_nil, Nat.zero_add]
            exact this
          case measure => simp [intOf]; omega
        · have hkp : 0 < k := by omega
          generalize timeN (s.data.toList.drop k) = n at *
          have hnn : 7 ≤ n ∧ n ≤ 11 ∧ n ≤ s.size - k := by omega
          obtain ⟨n1, n2, n3⟩ := hnn
          clear hrng hz
          have tok1 : True := trivial
          go_wp2_with (first | (go_at_call 32; have _t := tok1; refine (htm _).mono ?_; rintro e w2 ⟨rfl, hb2⟩; have hB2 := hb.trans (hb2.mono hb.size); have hz2 := hB2.size; have hown2 := Lib.hid (own_below Hown.out hb2); clear tok1 _t) | (go_at_call 32; refine (htm _).mono ?_; rintro e w3 ⟨rfl, hb3⟩; have hB3 := hB2.trans (hb3.mono hz2); have hz3 := hB3.size; have hown3 := Lib.hid (own_below hown2.out hb3)) | (go_at_call 33; refine (Put_any w.heap.size _ acc (s.extract k (k + n)) _ hown3.out hz3 (by omega)).mono ?_; rintro e w4 ⟨v4, rfl, hown4, hb4⟩; have hB4 := hB3.trans (hb4 _ (Nat.le_refl _)); have Hown4 := Lib.hid hown4; clear hown4 hb4))
          go_roundw
          case rel =>
            refine ⟨acc ++ [mk ((s.data.toList.drop k).take n)], k + n, f', by omega, by go_num, HT.out, by omega, by simp; omega, fun e => by simp at e, ?_, fun e => by simp at e, hB4⟩
            have := Hown4.out
            rw [HX.out, B_data] at this
            simp only [List.length_append, List.length_cons, List.length_nil, Nat.zero_add]
            exact this
          case measure => simp [intOf]; omega
end Go.Proofs.Ytllmjlmeheohlaa
