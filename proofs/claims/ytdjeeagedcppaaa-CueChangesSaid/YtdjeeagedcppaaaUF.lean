/- Contract of cue.Pieces; condition: at most 100,000 bytes. -/
import Derived.Test.YtdjeeagedcppaaaUE
set_option maxRecDepth 100000
set_option maxHeartbeats 4000000
namespace Go.Proofs.Ytdjeeagedcppaaa
open Go Go.RowKit

theorem eqB_no {s : ByteArray} {b e : Nat} {l : List UInt8} (h : (s.data.toList.take e).drop b ≠ l) : ((s.extract b e).toList == l) = false := by
  rw [ByteArray.toList_eq, ext_data, beq_eq_false_iff_ne]; exact h
theorem eqB_yes {s : ByteArray} {b e : Nat} {l : List UInt8} (h : (s.data.toList.take e).drop b = l) : ((s.extract b e).toList == l) = true := by
  rw [ByteArray.toList_eq, ext_data, h]; simp
theorem eqB_any (s : ByteArray) (b e : Nat) (l : List UInt8) : ((s.extract b e).toList == l) = ((s.data.toList.take e).drop b == l) := by
  rw [ByteArray.toList_eq, ext_data]
def CFin (w : World) (P : Ending → World → Prop) (r : Option (List Pc)) : Prop := ∀ w0 v w', Below w.heap.size w w0 → Rows3 pcV w' v (r.getD []) → Below w0.heap.size w0 w' → P (.returned (.tuple #[v, .bool r.isSome])) w'
theorem CPieces_any (s : ByteArray) (hs : s.size ≤ 100000) (w : World) :
    Calls Try.prog 13 #[.string s] w (PcPost cueL s.data.toList w) := by
  generalize hP : PcPost cueL s.data.toList w = P at *
  have hl0 := len_data s
  have hfin : ∀ r, cueL s.data.toList = r → CFin w P r := by
    intro r h w0 v w' hb hr hb'
    rw [← hP]
    exact ⟨v, by rw [h], by rw [h]; exact hr, bch hb hb'⟩
  obtain ⟨hb1, _, _⟩ := tw_all_at blB s 0 (by omega)
  simp only [List.drop_zero, Nat.zero_add] at hb1
  obtain ⟨he1, _, _⟩ := tw_all_at upB s (wB s.data.toList) hb1
  change wB s.data.toList ≤ s.size at hb1
  change wE s.data.toList ≤ s.size at he1
  have hbe : wB s.data.toList ≤ wE s.data.toList := by unfold wE; omega
  have hcue : cueL s.data.toList = if wB s.data.toList = s.data.toList.length then (if s.data.toList = [] then some [] else some [mk s.data.toList])
    else if wE s.data.toList = s.data.toList.length then wholeP s.data.toList ((s.data.toList.take (wE s.data.toList)).drop (wB s.data.toList) == kRem)
    else if s.data.toList[wE s.data.toList]? = some 32 then caseL ((s.data.toList.take (wE s.data.toList)).drop (wB s.data.toList)) s.data.toList (wE s.data.toList + 1)
    else none := rfl
  have hw := fun w => Word_any s (by omega) w
  have hw : ∀ w, Calls Try.prog 21 #[.string s] w fun e w' => e = .returned (.tuple #[.int .i64 (wB s.data.toList), .int .i64 (wE s.data.toList)]) ∧ w = w' := fun w => (hw w).mono fun e w' h => ⟨h.1, h.2.symm⟩
  have hwh := fun ok w => CWhole_any s hs ok w
  unfold RPost PcPost at hwh
  rw [hl0] at hcue
  generalize wB s.data.toList = b at *
  generalize wE s.data.toList = e at *
  clear hP
  by_cases c1 : b = s.size
  · rw [if_pos c1] at hcue
    have d1 : ((b : Int) == (s.size : Int)) = true := by rw [c1]; simp
    by_cases hz : s.size = 0
    · have hE : s.data.toList = [] := List.eq_nil_of_length_eq_zero (by omega)
      have hem : s.toList.isEmpty = true := by rw [ByteArray.toList_eq, hE]; rfl
      rw [if_pos hE] at hcue
      have Hf := Lib.hid (hfin _ hcue)
      clear hfin hcue hwh hE c1 hz hl0
      go_enter Try.func13, Try.ntmps13
      go_wp2_with (go_at_call 21; refine (hw _).mono ?_; rintro e0 w0 ⟨rfl, rfl⟩)
      exact Hf.out _ _ _ (Below.refl _ _) (.inl ⟨rfl, rfl⟩) (Below.refl _ _)
    · have hE : s.data.toList ≠ [] := fun e => by rw [e] at hl0; simp at hl0; omega
      have hem : s.toList.isEmpty = false := by
        rw [ByteArray.toList_eq]
        generalize s.data.toList = l at *
        cases l with
        | nil => exact absurd rfl hE
        | cons _ _ => rfl
      rw [if_neg hE] at hcue
      have Hf := Lib.hid (hfin _ hcue)
      have e0 : pcV (mk s.data.toList) = [.bool true, .string (B nMark), .string s] := by unfold pcV mk; rw [← B_of]
      have hr := fun W => rows3_new (f := pcV) W 30 [mk s.data.toList] (by simp)
      simp only [List.flatMap_cons, List.flatMap_nil, List.append_nil, e0] at hr
      have Hr := Lib.hid hr
      have hmk := Mark_one w.heap.size s (w.alloc (.cells #[.string s] 9)) (newA w _ _) (by omega)
      clear hfin hcue hwh hE c1 hz hl0 hr e0
      go_enter Try.func13, Try.ntmps13
      go_wp2_with (first | (go_at_call 21; refine (hw _).mono ?_; rintro e0 w0 ⟨rfl, rfl⟩) | (go_at_call 20; refine hmk.mono ?_; rintro e1 w1 ⟨rfl, hb1⟩; have hz1 := sz_a1 hb1))
      exact Hf.out _ _ _ (Below.refl _ _) (Hr.out _) ((below_a1 hb1).alloc (by omega) _)
  · rw [if_neg c1] at hcue
    have d1 : ((b : Int) == (s.size : Int)) = false := by rw [beq_eq_false_iff_ne]; omega
    by_cases c2 : e = s.size
    · rw [if_pos c2] at hcue
      have d2 : ((e : Int) == (s.size : Int)) = true := by rw [c2]; simp
      rw [show ((s.data.toList.take e).drop b == kRem) = ((s.extract b e).toList == [82, 69, 77]) from (eqB_any s b e [82, 69, 77]).symm] at hcue
      have Hf := Lib.hid (hfin _ hcue)
      clear hfin hcue c1 c2 hl0
      go_enter Try.func13, Try.ntmps13
      go_wp2_with (first | (go_at_call 21; refine (hw _).mono ?_; rintro e0 w0 ⟨rfl, rfl⟩) | (go_at_call 22; refine (hwh _ _).mono ?_; rintro e1 w1 ⟨v, rfl, hv, hb1⟩))
      exact Hf.out _ _ _ (Below.refl _ _) hv hb1
    · rw [if_neg c2] at hcue
      have d2 : ((e : Int) == (s.size : Int)) = false := by rw [beq_eq_false_iff_ne]; omega
      have hlt : e < s.size := by omega
      have hg := get_eq s e hlt 32
      by_cases c3 : s[e] = 32
      · have d3 : ((s[e].toNat : Int) != 32) = false := by rw [c3]; rfl
        rw [if_pos (hg.2 c3)] at hcue
        have e1 : IntKind.i64.wrap ((e : Int) + 1) = (e : Int) + 1 := IntWalk.i64_in _ (by omega)
        have e2 : ((e : Int) + 1).toNat = e + 1 := by omega
        have hvd : ∀ (nm : ByteArray) (w : World), Calls Try.prog 24 #[.string s, .string nm, .int .i64 ((e : Int) + 1), .int .i64 s.size] w (RPost (vdL s.data.toList nm.data.toList (e + 1) s.size) w) := fun nm w => by
          have := Valued_any s nm (e + 1) s.size (by omega) (Nat.le_refl _) hs w
          simpa using this
        unfold RPost PcPost at hvd
        unfold caseL at hcue
        have hrx : (s.extract (e + 1) s.size).data.toList = s.data.toList.drop (e + 1) := extr s (e + 1)
        have hti : ∀ w, Calls Try.prog 28 #[.string (s.extract (e + 1) s.size)] w fun e' w' => e' = .returned (.bool (likeB (s.data.toList.drop (e + 1)) momF)) ∧ Below w.heap.size w w' := fun w => by
          have := Timed_any (s.extract (e + 1) s.size) (by simp; omega) w
          rw [hrx] at this; exact this
        have hli : ∀ w, Calls Try.prog 29 #[.string (s.extract (e + 1) s.size)] w fun e' w' => e' = .returned (.bool (listB (s.data.toList.drop (e + 1)))) ∧ Below w.heap.size w w' := fun w => by
          have := Listed_any (s.extract (e + 1) s.size) (by simp; omega) w
          rw [hrx] at this; exact this
        have hn1 : ∀ w, Calls Try.prog 27 #[.string (s.extract (e + 1) s.size), .func (.func 26) #[] #[]] w fun e' w' => e' = .returned (.bool (numB (s.data.toList.drop (e + 1)) && capsB ((s.data.toList.drop (e + 1)).drop 3))) ∧ Below w.heap.size w w' := fun w => by
          have := Num_caps (s.extract (e + 1) s.size) (by simp; omega) w
          rw [hrx] at this; exact this
        have hn2 : ∀ w, Calls Try.prog 27 #[.string (s.extract (e + 1) s.size), .func (.func 28) #[] #[]] w fun e' w' => e' = .returned (.bool (numB (s.data.toList.drop (e + 1)) && likeB ((s.data.toList.drop (e + 1)).drop 3) momF)) ∧ Below w.heap.size w w' := fun w => by
          have := Num_timed (s.extract (e + 1) s.size) (by simp; omega) w
          rw [hrx] at this; exact this
        by_cases n0 : (s.data.toList.take e).drop b = kRem
        · rw [if_pos n0] at hcue
          have t0 := eqB_yes n0
          unfold kRem at t0
          clear n0
          have Hf := Lib.hid (hfin _ hcue)
          have e0 : pcV (mk (s.data.toList.take (e + 1))) ++ pcV (false, nRemark, s.data.toList.drop (e + 1)) = [.bool true, .string (B nMark), .string (s.extract 0 (e + 1)), .bool false, .string ⟨#[114, 101, 109, 97, 114, 107]⟩, .string (s.extract (e + 1) s.size)] := by
            have x0 : (s.extract 0 (e + 1)).data.toList = s.data.toList.take (e + 1) := by rw [ext_data, List.drop_zero]
            rw [← x0, ← hrx]; unfold pcV mk; rw [← B_of, ← B_of]; rfl
          have hr := fun W => rows3_new (f := pcV) W 30 [mk (s.data.toList.take (e + 1)), (false, nRemark, s.data.toList.drop (e + 1))] (by simp)
          simp only [List.flatMap_cons, List.flatMap_nil, List.append_nil, e0] at hr
          have Hr := Lib.hid hr
          have hmk := Mark_one w.heap.size (s.extract 0 (e + 1)) (w.alloc (.cells #[.string (s.extract 0 (e + 1))] 9)) (newA w _ _) (by simp; omega)
          clear hfin hcue hg c1 c2 hl0 hrx hwh hti hli hn1 hn2 hvd hr e0
          go_enter Try.func13, Try.ntmps13
          go_wp2_with (first | (go_at_call 21; refine (hw _).mono ?_; rintro e0 w0 ⟨rfl, rfl⟩) | (go_at_call 20; refine hmk.mono ?_; rintro e5 w1 ⟨rfl, hb1⟩; have hz1 := sz_a1 hb1) | (go_at_call 23; refine (Text_any _ _ _).mono ?_; rintro e6 w2 ⟨rfl, hb2⟩; have hz2 := hb2.size))
          exact Hf.out _ _ _ (Below.refl _ _) (Hr.out _) ((bch (below_a1 hb1) hb2).alloc (by omega) _)
        rw [if_neg n0] at hcue
        have t0 := eqB_no n0
        unfold kRem at t0
        clear n0
        by_cases n1 : (s.data.toList.take e).drop b = kTitle
        · rw [if_pos n1] at hcue
          have t1 := eqB_yes n1
          unfold kTitle at t1
          clear n1
          have Hf := Lib.hid (hfin _ hcue)
          clear hwh hti hli hn1 hn2
          clear hfin hcue hg c1 c2 hl0 hrx
          go_enter Try.func13, Try.ntmps13
          go_wp2_with (first | (go_at_call 21; refine (hw _).mono ?_; rintro e0 w0 ⟨rfl, rfl⟩) | (go_at_call 24; refine (hvd _ _).mono ?_; rintro e5 w5 ⟨v, rfl, hv, hb5⟩))
          exact Hf.out _ _ _ (Below.refl _ _) hv hb5
        rw [if_neg n1] at hcue
        have t1 := eqB_no n1
        unfold kTitle at t1
        clear n1
        by_cases n2 : (s.data.toList.take e).drop b = kPerf
        · rw [if_pos n2] at hcue
          have t2 := eqB_yes n2
          unfold kPerf at t2
          clear n2
          have Hf := Lib.hid (hfin _ hcue)
          clear hwh hti hli hn1 hn2
          clear hfin hcue hg c1 c2 hl0 hrx
          go_enter Try.func13, Try.ntmps13
          go_wp2_with (first | (go_at_call 21; refine (hw _).mono ?_; rintro e0 w0 ⟨rfl, rfl⟩) | (go_at_call 24; refine (hvd _ _).mono ?_; rintro e5 w5 ⟨v, rfl, hv, hb5⟩))
          exact Hf.out _ _ _ (Below.refl _ _) hv hb5
        rw [if_neg n2] at hcue
        have t2 := eqB_no n2
        unfold kPerf at t2
        clear n2
        by_cases n3 : (s.data.toList.take e).drop b = kSong
        · rw [if_pos n3] at hcue
          have t3 := eqB_yes n3
          unfold kSong at t3
          clear n3
          have Hf := Lib.hid (hfin _ hcue)
          clear hwh hti hli hn1 hn2
          clear hfin hcue hg c1 c2 hl0 hrx
          go_enter Try.func13, Try.ntmps13
          go_wp2_with (first | (go_at_call 21; refine (hw _).mono ?_; rintro e0 w0 ⟨rfl, rfl⟩) | (go_at_call 24; refine (hvd _ _).mono ?_; rintro e5 w5 ⟨v, rfl, hv, hb5⟩))
          exact Hf.out _ _ _ (Below.refl _ _) hv hb5
        rw [if_neg n3] at hcue
        have t3 := eqB_no n3
        unfold kSong at t3
        clear n3
        by_cases n4 : (s.data.toList.take e).drop b = kFile
        · rw [if_pos n4] at hcue
          have t4 := eqB_yes n4
          unfold kFile at t4
          clear n4
          unfold fileL at hcue
          have hls := fun w => Try.strings_LastIndex (s.extract (e + 1) s.size) ⟨#[32]⟩ (by simp; omega) w
          rw [hrx] at hls
          have hls : ∀ w, Calls Try.prog 25 #[.string (s.extract (e + 1) s.size), .string ⟨#[32]⟩] w fun e' w' => e' = .returned (.int .i64 (lastB (s.data.toList.drop (e + 1)))) ∧ w = w' := fun w => (hls w).mono fun e' w' h => ⟨h.1, h.2.symm⟩
          have hlsp := last_spec (s.data.toList.drop (e + 1))
          by_cases hneg : 0 ≤ lastB (s.data.toList.drop (e + 1))
          · obtain ⟨hk1, _⟩ := hlsp hneg
            obtain ⟨k, hk⟩ : ∃ k : Nat, lastB (s.data.toList.drop (e + 1)) = k := ⟨_, (Int.toNat_of_nonneg hneg).symm⟩
            rw [hk] at hcue hls hk1
            rw [Int.toNat_natCast] at hcue hk1
            rw [List.length_drop, hl0] at hk1
            have hRs : (s.extract (e + 1) s.size).size = s.size - (e + 1) := by simp
            have hcp : ∀ w, Calls Try.prog 26 #[.string ((s.extract (e + 1) s.size).extract (k + 1) (s.size - (e + 1)))] w fun e' w' => e' = .returned (.bool (capsB ((s.data.toList.drop (e + 1)).drop (k + 1)))) ∧ Below w.heap.size w w' := fun w => by
              have := Capitals_any ((s.extract (e + 1) s.size).extract (k + 1) (s.extract (e + 1) s.size).size) (by simp; omega) w
              rw [extr, hrx, hRs] at this
              exact this
            have e5 : IntKind.i64.wrap ((k : Int) + 1) = (k : Int) + 1 := IntWalk.i64_in _ (by omega)
            have e6 : ((k : Int) + 1).toNat = k + 1 := by omega
            have e7 : IntKind.i64.wrap ((e : Int) + 1 + k) = (e : Int) + 1 + k := IntWalk.i64_in _ (by omega)
            have e8 : ((e : Int) + 1 + k).toNat = e + 1 + k := by omega
            have hvf : ∀ (w : World), Calls Try.prog 24 #[.string s, .string ⟨#[102, 105, 108, 101]⟩, .int .i64 ((e : Int) + 1), .int .i64 ((e : Int) + 1 + k)] w (RPost (vdL s.data.toList nFile (e + 1) (e + 1 + k)) w) := fun w => by
              have := Valued_any s ⟨#[102, 105, 108, 101]⟩ (e + 1) (e + 1 + k) (by omega) (by omega) hs w
              rw [show ((e + 1 : Nat) : Int) = (e : Int) + 1 by simp, show ((e + 1 + k : Nat) : Int) = (e : Int) + 1 + k by simp] at this
              exact this
            unfold RPost PcPost at hvf
            cases hcb : capsB ((s.data.toList.drop (e + 1)).drop (k + 1)) with
            | false =>
              rw [hcb] at hcp
              rw [hcb, if_neg (fun h => by cases h.2)] at hcue
              have Hf := Lib.hid (hfin _ hcue)
              have H32 := Lib.hid hlsp
              clear hfin hcue hg c1 c2 hl0 hrx hwh hti hli hn1 hn2 hvd hlsp hneg hcb hk
              go_enter Try.func13, Try.ntmps13
              go_wp2_with (first | (go_at_call 21; refine (hw _).mono ?_; rintro e0 w0 ⟨rfl, rfl⟩) | (go_at_call 25; refine (hls _).mono ?_; rintro e5 w1 ⟨rfl, rfl⟩) | (go_at_call 26; refine (hcp _).mono ?_; rintro e6 w2 ⟨rfl, hb2⟩))
              exact Hf.out _ _ _ hb2 (.inl ⟨rfl, rfl⟩) (Below.refl _ _)
            | true =>
              rw [hcb] at hcp
              rw [hcb, if_pos ⟨by omega, rfl⟩] at hcue
              have Hf := Lib.hid (hfin _ hcue)
              clear hfin hcue hg c1 c2 hl0 hrx hwh hti hli hn1 hn2 hvd hlsp hneg hcb hk
              go_enter Try.func13, Try.ntmps13
              go_wp2_with (first | (go_at_call 21; refine (hw _).mono ?_; rintro e0 w0 ⟨rfl, rfl⟩) | (go_at_call 25; refine (hls _).mono ?_; rintro e5 w1 ⟨rfl, rfl⟩) | (go_at_call 26; refine (hcp _).mono ?_; rintro e6 w2 ⟨rfl, hb2⟩) | (go_at_call 24; refine (hvf _).mono ?_; rintro e7 w5 ⟨v, rfl, hv, hb5⟩))
              exact Hf.out _ _ _ hb2 hv hb5
          · rw [if_neg (fun h => hneg h.1)] at hcue
            have hlt0 : lastB (s.data.toList.drop (e + 1)) < 0 := by omega
            have Hf := Lib.hid (hfin _ hcue)
            clear hlsp
            clear hfin hcue hg c1 c2 hl0 hrx hwh hti hli hn1 hn2 hvd hneg
            generalize lastB (s.data.toList.drop (e + 1)) = z at *
            go_enter Try.func13, Try.ntmps13
            go_wp2_with (first | (go_at_call 21; refine (hw _).mono ?_; rintro e0 w0 ⟨rfl, rfl⟩) | (go_at_call 25; refine (hls _).mono ?_; rintro e5 w1 ⟨rfl, rfl⟩))
            exact Hf.out _ _ _ (Below.refl _ _) (.inl ⟨rfl, rfl⟩) (Below.refl _ _)
        rw [if_neg n4] at hcue
        have t4 := eqB_no n4
        unfold kFile at t4
        clear n4
        by_cases n5 : (s.data.toList.take e).drop b = kTrack
        · rw [if_pos n5] at hcue
          have t5 := eqB_yes n5
          unfold kTrack at t5
          clear n5
          rw [List.drop_drop] at hcue
          simp only [List.drop_drop] at hn1
          have Hf := Lib.hid (hfin _ hcue)
          clear hti hli hn2 hvd
          clear hfin hcue hg c1 c2 hl0 hrx
          go_enter Try.func13, Try.ntmps13
          go_wp2_with (first | (go_at_call 21; refine (hw _).mono ?_; rintro e0 w0 ⟨rfl, rfl⟩) | (go_at_call 27; refine (hn1 _).mono ?_; rintro e5 w5 ⟨rfl, hb5⟩) | (go_at_call 22; refine (hwh _ _).mono ?_; rintro e6 w6 ⟨v, rfl, hv, hb6⟩))
          exact Hf.out _ _ _ hb5 hv hb6
        rw [if_neg n5] at hcue
        have t5 := eqB_no n5
        unfold kTrack at t5
        clear n5
        by_cases n6 : (s.data.toList.take e).drop b = kIndex
        · rw [if_pos n6] at hcue
          have t6 := eqB_yes n6
          unfold kIndex at t6
          clear n6
          rw [List.drop_drop] at hcue
          simp only [List.drop_drop] at hn2
          have Hf := Lib.hid (hfin _ hcue)
          clear hti hli hn1 hvd
          clear hfin hcue hg c1 c2 hl0 hrx
          go_enter Try.func13, Try.ntmps13
          go_wp2_with (first | (go_at_call 21; refine (hw _).mono ?_; rintro e0 w0 ⟨rfl, rfl⟩) | (go_at_call 27; refine (hn2 _).mono ?_; rintro e5 w5 ⟨rfl, hb5⟩) | (go_at_call 22; refine (hwh _ _).mono ?_; rintro e6 w6 ⟨v, rfl, hv, hb6⟩))
          exact Hf.out _ _ _ hb5 hv hb6
        rw [if_neg n6] at hcue
        have t6 := eqB_no n6
        unfold kIndex at t6
        clear n6
        by_cases n7 : (s.data.toList.take e).drop b = kPre
        · rw [if_pos n7] at hcue
          have t7 := eqB_yes n7
          unfold kPre at t7
          clear n7
          have Hf := Lib.hid (hfin _ hcue)
          clear hli hn1 hn2 hvd
          clear hfin hcue hg c1 c2 hl0 hrx
          go_enter Try.func13, Try.ntmps13
          go_wp2_with (first | (go_at_call 21; refine (hw _).mono ?_; rintro e0 w0 ⟨rfl, rfl⟩) | (go_at_call 28; refine (hti _).mono ?_; rintro e5 w5 ⟨rfl, hb5⟩) | (go_at_call 22; refine (hwh _ _).mono ?_; rintro e6 w6 ⟨v, rfl, hv, hb6⟩))
          exact Hf.out _ _ _ hb5 hv hb6
        rw [if_neg n7] at hcue
        have t7 := eqB_no n7
        unfold kPre at t7
        clear n7
        by_cases n8 : (s.data.toList.take e).drop b = kPost
        · rw [if_pos n8] at hcue
          have t8 := eqB_yes n8
          unfold kPost at t8
          clear n8
          have Hf := Lib.hid (hfin _ hcue)
          clear hli hn1 hn2 hvd
          clear hfin hcue hg c1 c2 hl0 hrx
          go_enter Try.func13, Try.ntmps13
          go_wp2_with (first | (go_at_call 21; refine (hw _).mono ?_; rintro e0 w0 ⟨rfl, rfl⟩) | (go_at_call 28; refine (hti _).mono ?_; rintro e5 w5 ⟨rfl, hb5⟩) | (go_at_call 22; refine (hwh _ _).mono ?_; rintro e6 w6 ⟨v, rfl, hv, hb6⟩))
          exact Hf.out _ _ _ hb5 hv hb6
        rw [if_neg n8] at hcue
        have t8 := eqB_no n8
        unfold kPost at t8
        clear n8
        by_cases n9 : (s.data.toList.take e).drop b = kCat
        · rw [if_pos n9] at hcue
          have t9 := eqB_yes n9
          unfold kCat at t9
          clear n9
          have Hf := Lib.hid (hfin _ hcue)
          clear hti hn1 hn2 hvd
          clear hfin hcue hg c1 c2 hl0 hrx
          go_enter Try.func13, Try.ntmps13
          go_wp2_with (first | (go_at_call 21; refine (hw _).mono ?_; rintro e0 w0 ⟨rfl, rfl⟩) | (go_at_call 29; refine (hli _).mono ?_; rintro e5 w5 ⟨rfl, hb5⟩) | (go_at_call 22; refine (hwh _ _).mono ?_; rintro e6 w6 ⟨v, rfl, hv, hb6⟩))
          exact Hf.out _ _ _ hb5 hv hb6
        rw [if_neg n9] at hcue
        have t9 := eqB_no n9
        unfold kCat at t9
        clear n9
        by_cases n10 : (s.data.toList.take e).drop b = kIsrc
        · rw [if_pos n10] at hcue
          have t10 := eqB_yes n10
          unfold kIsrc at t10
          clear n10
          have Hf := Lib.hid (hfin _ hcue)
          clear hti hn1 hn2 hvd
          clear hfin hcue hg c1 c2 hl0 hrx
          go_enter Try.func13, Try.ntmps13
          go_wp2_with (first | (go_at_call 21; refine (hw _).mono ?_; rintro e0 w0 ⟨rfl, rfl⟩) | (go_at_call 29; refine (hli _).mono ?_; rintro e5 w5 ⟨rfl, hb5⟩) | (go_at_call 22; refine (hwh _ _).mono ?_; rintro e6 w6 ⟨v, rfl, hv, hb6⟩))
          exact Hf.out _ _ _ hb5 hv hb6
        rw [if_neg n10] at hcue
        have t10 := eqB_no n10
        unfold kIsrc at t10
        clear n10
        by_cases n11 : (s.data.toList.take e).drop b = kFlags
        · rw [if_pos n11] at hcue
          have t11 := eqB_yes n11
          unfold kFlags at t11
          clear n11
          have Hf := Lib.hid (hfin _ hcue)
          clear hti hn1 hn2 hvd
          clear hfin hcue hg c1 c2 hl0 hrx
          go_enter Try.func13, Try.ntmps13
          go_wp2_with (first | (go_at_call 21; refine (hw _).mono ?_; rintro e0 w0 ⟨rfl, rfl⟩) | (go_at_call 29; refine (hli _).mono ?_; rintro e5 w5 ⟨rfl, hb5⟩) | (go_at_call 22; refine (hwh _ _).mono ?_; rintro e6 w6 ⟨v, rfl, hv, hb6⟩))
          exact Hf.out _ _ _ hb5 hv hb6
        rw [if_neg n11] at hcue
        have t11 := eqB_no n11
        unfold kFlags at t11
        clear n11
        have Hf := Lib.hid (hfin _ hcue)
        clear hfin hcue hg c1 c2 hl0 hrx hwh hti hli hn1 hn2 hvd
        go_enter Try.func13, Try.ntmps13
        go_wp2_with (go_at_call 21; refine (hw _).mono ?_; rintro e0 w0 ⟨rfl, rfl⟩)
        exact Hf.out _ _ _ (Below.refl _ _) (.inl ⟨rfl, rfl⟩) (Below.refl _ _)
      · have d3 : ((s[e].toNat : Int) != 32) = true := by
          rw [bne_iff_ne]
          exact fun h => c3 (UInt8.toNat_inj.1 (by show s[e].toNat = 32; omega))
        rw [if_neg (fun h => c3 (hg.1 h))] at hcue
        have Hf := Lib.hid (hfin _ hcue)
        clear hfin hcue hwh hg c1 c2 hl0
        go_enter Try.func13, Try.ntmps13
        go_wp2_with (go_at_call 21; refine (hw _).mono ?_; rintro e0 w0 ⟨rfl, rfl⟩)
        exact Hf.out _ _ _ (Below.refl _ _) (.inl ⟨rfl, rfl⟩) (Below.refl _ _)
end Go.Proofs.Ytdjeeagedcppaaa
