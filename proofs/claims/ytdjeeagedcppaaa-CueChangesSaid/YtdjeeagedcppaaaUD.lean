/- Contracts of cue.whole, timed, numbered, listed, value; condition: at most 100,000 bytes. -/
import Derived.Test.YtdjeeagedcppaaaUB
import Derived.Test.YtdjeeagedcppaaaYK
set_option maxRecDepth 100000
set_option maxHeartbeats 4000000
namespace Go.Proofs.Ytdjeeagedcppaaa
open Go Go.RowKit

abbrev RPost (r : Option (List Pc)) (w : World) (e : Ending) (w' : World) : Prop := PcPost (fun _ => r) [] w e w'
theorem CWhole_any (s : ByteArray) (hs : s.size ≤ 100000) (ok : Bool) (w : World) :
    Calls Try.prog 22 #[.string s, .bool ok] w (RPost (wholeP s.data.toList ok) w) := by
  cases ok with
  | false =>
    go_enter Try.func22, Try.ntmps22
    go_wp2_with fail
    go_ret2
    exact ⟨_, rfl, .inl ⟨rfl, rfl⟩, Below.refl _ _⟩
  | true =>
    have e : pcV (mk s.data.toList) = [.bool true, .string (B nMark), .string s] := by unfold pcV mk; rw [← B_of]
    have hr := fun W => rows3_new (f := pcV) W 30 [mk s.data.toList] (by simp)
    simp only [List.flatMap_cons, List.flatMap_nil, List.append_nil, e] at hr
    have Hr := Lib.hid hr
    have hmk := Mark_one w.heap.size s (w.alloc (.cells #[.string s] 9)) (newA w _ _) (by omega)
    clear hr e
    go_enter Try.func22, Try.ntmps22
    go_wp2_with (go_at_call 20; refine hmk.mono ?_; rintro e w1 ⟨rfl, hb1⟩; have hz1 := sz_a1 hb1)
    go_ret2
    exact ⟨_, rfl, Hr.out _, (below_a1 hb1).alloc (by omega) _⟩
theorem Timed_any (s : ByteArray) (hs : s.size ≤ 100000) (w : World) :
    Calls Try.prog 28 #[.string s] w fun e w' => e = .returned (.bool (likeB s.data.toList momF)) ∧ Below w.heap.size w w' := by
  have hl := fun w => Like_any s ⟨#[48, 48, 58, 48, 48, 58, 48, 48]⟩ (by omega) w
  go_enter Try.func28, Try.ntmps28
  go_wp2_with (go_at_call 33; refine (hl _).mono ?_; rintro e w1 ⟨rfl, hb1⟩)
  go_ret
  exact ⟨rfl, hb1⟩
theorem get2 (s : ByteArray) (k : Nat) (hk : k < s.size) (c : UInt8) : (s.data.toList[k]? == some c) = decide (s[k] = c) := by
  have h := get_eq s k hk c
  by_cases e : s[k] = c
  · rw [h.2 e, decide_eq_true e]; simp
  · rw [decide_eq_false e, beq_eq_false_iff_ne]; exact fun h2 => e (h.1 h2)
theorem num_no (s : ByteArray) (h : ¬ 2 < s.size) : numB s.data.toList = false := by
  unfold numB; rw [len_data, decide_eq_false h]; rfl
theorem num_yes (s : ByteArray) (h : 2 < s.size) : numB s.data.toList = (likeB (s.data.toList.take 2) numF && decide (s[2] = 32)) := by
  unfold numB; rw [len_data, decide_eq_true h, get2 s 2 h]; simp
theorem extr (s : ByteArray) (k : Nat) : (s.extract k s.size).data.toList = s.data.toList.drop k := by
  rw [ext_data, List.take_of_length_le (by rw [len_data]; omega)]
theorem Num_caps (s : ByteArray) (hs : s.size ≤ 100000) (w : World) :
    Calls Try.prog 27 #[.string s, .func (.func 26) #[] #[]] w fun e w' => e = .returned (.bool (numB s.data.toList && capsB (s.data.toList.drop 3))) ∧ Below w.heap.size w w' := by
  by_cases h2 : 2 < s.size
  · have hl : ∀ w, Calls Try.prog 33 #[.string (s.extract 0 2), .string ⟨#[48, 48]⟩] w fun e w' => e = .returned (.bool (likeB (s.data.toList.take 2) numF)) ∧ Below w.heap.size w w' := fun w => by
      have := Like_any (s.extract 0 2) ⟨#[48, 48]⟩ (by simp; omega) w
      rw [ext_data, List.drop_zero] at this
      exact this
    have hc : ∀ w, Calls Try.prog 26 #[.string (s.extract 3 s.size)] w fun e w' => e = .returned (.bool (capsB (s.data.toList.drop 3))) ∧ Below w.heap.size w w' := fun w => by
      have := Capitals_any (s.extract 3 s.size) (by simp; omega) w
      rw [extr] at this
      exact this
    rw [num_yes s h2]
    cases hlk : likeB (s.data.toList.take 2) numF
    · rw [hlk] at hl
      go_enter Try.func27, Try.ntmps27
      go_wp2_with (go_at_call 33; refine (hl _).mono ?_; rintro e w1 ⟨rfl, hb1⟩)
      go_ret
      exact ⟨rfl, hb1⟩
    · rw [hlk] at hl
      by_cases h32 : s[2] = 32
      · have e32 : ((s[2].toNat : Int) == 32) = true := by rw [h32]; rfl
        rw [decide_eq_true h32]
        go_enter Try.func27, Try.ntmps27
        go_wp2_with (first | (go_at_call 33; refine (hl _).mono ?_; rintro e w1 ⟨rfl, hb1⟩) | (go_at_call 26; refine (hc _).mono ?_; rintro e w2 ⟨rfl, hb2⟩))
        go_ret
        exact ⟨rfl, bch hb1 hb2⟩
      · have e32 : ((s[2].toNat : Int) == 32) = false := by
          rw [beq_eq_false_iff_ne]
          exact fun e => h32 (UInt8.toNat_inj.1 (by show s[2].toNat = 32; omega))
        rw [decide_eq_false h32]
        go_enter Try.func27, Try.ntmps27
        go_wp2_with (go_at_call 33; refine (hl _).mono ?_; rintro e w1 ⟨rfl, hb1⟩)
        go_ret
        exact ⟨rfl, hb1⟩
  · rw [num_no s h2]
    go_enter Try.func27, Try.ntmps27
    go_wp2_with fail
    go_ret
    exact ⟨rfl, Below.refl _ _⟩
theorem Num_timed (s : ByteArray) (hs : s.size ≤ 100000) (w : World) :
    Calls Try.prog 27 #[.string s, .func (.func 28) #[] #[]] w fun e w' => e = .returned (.bool (numB s.data.toList && likeB (s.data.toList.drop 3) momF)) ∧ Below w.heap.size w w' := by
  by_cases h2 : 2 < s.size
  · have hl : ∀ w, Calls Try.prog 33 #[.string (s.extract 0 2), .string ⟨#[48, 48]⟩] w fun e w' => e = .returned (.bool (likeB (s.data.toList.take 2) numF)) ∧ Below w.heap.size w w' := fun w => by
      have := Like_any (s.extract 0 2) ⟨#[48, 48]⟩ (by simp; omega) w
      rw [ext_data, List.drop_zero] at this
      exact this
    have hc : ∀ w, Calls Try.prog 28 #[.string (s.extract 3 s.size)] w fun e w' => e = .returned (.bool (likeB (s.data.toList.drop 3) momF)) ∧ Below w.heap.size w w' := fun w => by
      have := Timed_any (s.extract 3 s.size) (by simp; omega) w
      rw [extr] at this
      exact this
    rw [num_yes s h2]
    cases hlk : likeB (s.data.toList.take 2) numF
    · rw [hlk] at hl
      go_enter Try.func27, Try.ntmps27
      go_wp2_with (go_at_call 33; refine (hl _).mono ?_; rintro e w1 ⟨rfl, hb1⟩)
      go_ret
      exact ⟨rfl, hb1⟩
    · rw [hlk] at hl
      by_cases h32 : s[2] = 32
      · have e32 : ((s[2].toNat : Int) == 32) = true := by rw [h32]; rfl
        rw [decide_eq_true h32]
        go_enter Try.func27, Try.ntmps27
        go_wp2_with (first | (go_at_call 33; refine (hl _).mono ?_; rintro e w1 ⟨rfl, hb1⟩) | (go_at_call 28; refine (hc _).mono ?_; rintro e w2 ⟨rfl, hb2⟩))
        go_ret
        exact ⟨rfl, bch hb1 hb2⟩
      · have e32 : ((s[2].toNat : Int) == 32) = false := by
          rw [beq_eq_false_iff_ne]
          exact fun e => h32 (UInt8.toNat_inj.1 (by show s[2].toNat = 32; omega))
        rw [decide_eq_false h32]
        go_enter Try.func27, Try.ntmps27
        go_wp2_with (go_at_call 33; refine (hl _).mono ?_; rintro e w1 ⟨rfl, hb1⟩)
        go_ret
        exact ⟨rfl, hb1⟩
  · rw [num_no s h2]
    go_enter Try.func27, Try.ntmps27
    go_wp2_with fail
    go_ret
    exact ⟨rfl, Below.refl _ _⟩
def lsB (c : UInt8) : Bool := c == 32 || capB c
def LtRel (s : ByteArray) (w0 : World) (i : Value) (wr : World) : Prop := ∃ k : Nat, k ≤ s.size ∧ i = .int .i64 k ∧ s.data.toList.all lsB = (s.data.toList.drop k).all lsB ∧ Below w0.heap.size w0 wr
theorem Listed_any (s : ByteArray) (hs : s.size ≤ 100000) (w : World) :
    Calls Try.prog 29 #[.string s] w fun e w' => e = .returned (.bool (listB s.data.toList)) ∧ Below w.heap.size w w' := by
  have hl0 := len_data s
  by_cases hne : s.size = 0
  · have hE : s.data.toList = [] := List.eq_nil_of_length_eq_zero (by omega)
    have hem : s.toList.isEmpty = true := by rw [ByteArray.toList_eq, hE]; rfl
    have hres : listB s.data.toList = false := by rw [hE]; rfl
    rw [hres]
    clear hres hE hne hl0
    go_enter Try.func29, Try.ntmps29
    go_wp2_with fail
    go_ret
    exact ⟨rfl, Below.refl _ _⟩
  · have hem : s.toList.isEmpty = false := by
      rw [ByteArray.toList_eq]
      generalize s.data.toList = l at *
      cases l with
      | nil => simp at hl0; omega
      | cons _ _ => rfl
    have h0 : 0 < s.size := by omega
    have hres : listB s.data.toList = (!decide (s[0] = 32) && s.data.toList.all lsB) := by
      unfold listB
      rw [← ByteArray.toList_eq, hem, ByteArray.toList_eq, bne, get2 s 0 h0]
      rfl
    rw [hres]
    clear hres hne
    by_cases h32 : s[0] = 32
    · have e32 : ((s[0].toNat : Int) == 32) = true := by rw [h32]; rfl
      rw [decide_eq_true h32]
      go_enter Try.func29, Try.ntmps29
      go_wp2_with fail
      go_ret
      exact ⟨rfl, Below.refl _ _⟩
    · have e32 : ((s[0].toNat : Int) == 32) = false := by
        rw [beq_eq_false_iff_ne]
        exact fun e => h32 (UInt8.toNat_inj.1 (by show s[0].toNat = 32; omega))
      rw [decide_eq_false h32]
      simp only [Bool.not_false, Bool.true_and]
      clear h32
      go_enter Try.func29, Try.ntmps29
      go_wp2_with fail
      go_loopw [13] (fun i wr => LtRel s w i wr) (fun i _ => s.size - (intOf i).toNat)
      case atStart => exact ⟨0, by omega, rfl, by simp, Below.refl _ _⟩
      case round =>
        obtain ⟨k, hk, rfl, heq, hb⟩ := hrel
        by_cases hlt : k < s.size
        · have hst : s.data.toList.all lsB = ((s[k] == 32 || capB s[k]) && (s.data.toList.drop (k + 1)).all lsB) := by
            rw [heq, drop_at s k hlt]; rfl
          have Hst := Lib.hid hst
          clear heq hst
          by_cases k32 : s[k] = 32
          · have f32 : ((s[k].toNat : Int) != 32) = false := by rw [k32]; rfl
            have hres := Lib.hid (show s.data.toList.all lsB = (s.data.toList.drop (k + 1)).all lsB by rw [Hst.out, k32]; rfl)
            clear Hst k32
            go_wp2_with fail
            go_roundw
            case rel => exact ⟨k + 1, by omega, by simp, hres.out, hb⟩
            case measure => simp [intOf]; omega
          · have f32 : ((s[k].toNat : Int) != 32) = true := by
              rw [bne_iff_ne]
              exact fun e => k32 (UInt8.toNat_inj.1 (by show s[k].toNat = 32; omega))
            have hcp : ∀ w, Calls Try.prog 26 #[.string (s.extract k (k + 1))] w fun e w' => e = .returned (.bool (capB s[k])) ∧ Below w.heap.size w w' := fun w => by
              have := Capitals_any (s.extract k (k + 1)) (by simp; omega) w
              have e : (s.extract k (k + 1)).data.toList = [s[k]] := by
                rw [ext_data, List.drop_take, drop_at s k hlt]; simp
              rw [e] at this
              simpa [capsB] using this
            cases hc : capB s[k]
            · rw [hc] at hcp
              have hres := Lib.hid (show s.data.toList.all lsB = false by rw [Hst.out, hc, beq_eq_false_iff_ne.2 k32]; rfl)
              clear Hst
              go_wp2_with (go_at_call 26; refine (hcp _).mono ?_; rintro e w1 ⟨rfl, hb1⟩)
              go_ret
              rw [hres.out]
              exact ⟨rfl, bch hb hb1⟩
            · rw [hc] at hcp
              have hres := Lib.hid (show s.data.toList.all lsB = (s.data.toList.drop (k + 1)).all lsB by rw [Hst.out, hc]; simp)
              clear Hst
              go_wp2_with (go_at_call 26; refine (hcp _).mono ?_; rintro e w1 ⟨rfl, hb1⟩)
              go_roundw
              case rel => exact ⟨k + 1, by omega, by simp, hres.out, bch hb hb1⟩
              case measure => simp [intOf]; omega
        · have hk2 : k = s.size := by omega
          subst hk2
          rw [List.drop_of_length_le (by omega)] at heq
          have hres := Lib.hid (show s.data.toList.all lsB = true by rw [heq]; rfl)
          clear heq hlt
          go_wp2_with fail
          go_ret
          rw [hres.out]
          exact ⟨rfl, hb⟩
def vt (l : List UInt8) : List UInt8 := ((valL l).map Prod.fst).getD []
def vn (l : List UInt8) : Nat := ((valL l).map Prod.snd).getD 0
theorem cont34 (l : List UInt8) : decide (0 ≤ Lib.indexByte l 34) = decide (34 ∈ l) := by
  have hge := Lib.indexByte_ge l 34
  by_cases h : 0 ≤ Lib.indexByte l 34
  · rw [decide_eq_true h, decide_eq_true (List.mem_of_getElem? (idx_get 34 l h).1)]
  · rw [decide_eq_false h, decide_eq_false (idx_none 34 l (by omega))]
theorem Cont34 (s : ByteArray) (w : World) : Calls Try.prog 47 #[.string s, .string ⟨#[34]⟩] w fun e w' => e = .returned (.bool (decide (34 ∈ s.data.toList))) ∧ w = w' := by
  rw [← cont34]
  exact (Try.strings_Contains_one s 34 w).mono fun e w' h => ⟨h.1, h.2.symm⟩
def VPost (l : List UInt8) (w : World) (e : Ending) (w' : World) : Prop := e = .returned (.tuple #[.string (B (vt l)), .int .i64 (vn l), .bool (valL l).isSome]) ∧ w' = w
theorem Value_any (s : ByteArray) (hs : s.size ≤ 100000) (w : World) :
    Calls Try.prog 34 #[.string s] w (VPost s.data.toList w) := by
  have hl0 := len_data s
  generalize hP : VPost s.data.toList w = P at *
  have hno : valL s.data.toList = none → P (.returned (.tuple #[.string ⟨#[]⟩, .int .i64 0, .bool false])) w := fun h => by
    rw [← hP]; unfold VPost vt vn; rw [h]; exact ⟨rfl, rfl⟩
  have hsome : ∀ t n, valL s.data.toList = some (t, n) → ∀ b, b = B t → P (.returned (.tuple #[.string b, .int .i64 (n : Nat), .bool true])) w := fun t n h b hb => by
    rw [← hP]; unfold VPost vt vn; rw [h, hb]; exact ⟨rfl, rfl⟩
  have Hno := Lib.hid hno
  have Hsome := Lib.hid hsome
  have hco := fun (w : World) => Cont34 s w
  clear hno hsome hP
  by_cases hq : 34 ∈ s.data.toList
  · simp only [decide_eq_true hq] at hco
    have hv : valL s.data.toList = if 2 ≤ s.data.toList.length ∧ s.data.toList[0]? = some 34 ∧ s.data.toList[s.data.toList.length - 1]? = some 34 ∧ 34 ∉ (s.data.toList.take (s.data.toList.length - 1)).drop 1 then some ((s.data.toList.take (s.data.toList.length - 1)).drop 1, 1) else none := by
      unfold valL; rw [if_pos hq]
    have hpos : 0 < s.size := by rw [← hl0]; exact List.length_pos_of_mem hq
    rw [hl0] at hv
    by_cases h2 : 2 ≤ s.size
    · have hp1 : s.size - 1 < s.size := by omega
      have g0 := get_eq s 0 hpos 34
      have g1 := get_eq s (s.size - 1) hp1 34
      by_cases a0 : s[0] = 34
      · have f0 : ((s[0].toNat : Int) != 34) = false := by rw [a0]; rfl
        by_cases a1 : (s[s.size - 1]'hp1) = 34
        · have f1 : (((s[s.size - 1]'hp1).toNat : Int) != 34) = false := by rw [a1]; rfl
          have hext : (s.extract 1 (s.size - 1)).data.toList = (s.data.toList.take (s.size - 1)).drop 1 := ext_data s 1 (s.size - 1)
          have hco2 := fun (w : World) => Cont34 (s.extract 1 (s.size - 1)) w
          rw [hext] at hco2
          by_cases hm : 34 ∈ (s.data.toList.take (s.size - 1)).drop 1
          · simp only [decide_eq_true hm] at hco2
            have Hn := Lib.hid (Hno.out (by rw [hv, if_neg (fun h => h.2.2.2 hm)]))
            clear Hno Hsome hv g0 g1 hext hm
            go_enter Try.func34, Try.ntmps34
            go_wp2_with (go_at_call 47; first | (refine (hco _).mono ?_; rintro e w1 ⟨rfl, rfl⟩; clear hco) | (refine (hco2 _).mono ?_; rintro e w1 ⟨rfl, rfl⟩))
            go_ret3
            exact Hn.out
          · simp only [decide_eq_false hm] at hco2
            have Hn := Lib.hid (Hsome.out _ _ (by rw [hv, if_pos ⟨h2, g0.2 a0, g1.2 a1, hm⟩]) (s.extract 1 (s.size - 1)) (by rw [← hext]; exact B_of _))
            clear Hno Hsome hv g0 g1 hext hm
            go_enter Try.func34, Try.ntmps34
            go_wp2_with (go_at_call 47; first | (refine (hco _).mono ?_; rintro e w1 ⟨rfl, rfl⟩; clear hco) | (refine (hco2 _).mono ?_; rintro e w1 ⟨rfl, rfl⟩))
            go_ret3
            exact Hn.out
        · have f1 : (((s[s.size - 1]'hp1).toNat : Int) != 34) = true := by
            rw [bne_iff_ne]
            exact fun e => a1 (UInt8.toNat_inj.1 (by show (s[s.size - 1]'hp1).toNat = 34; omega))
          have Hn := Lib.hid (Hno.out (by rw [hv, if_neg (fun h => a1 (g1.1 h.2.2.1))]))
          clear Hno Hsome hv g0 g1
          go_enter Try.func34, Try.ntmps34
          go_wp2_with (go_at_call 47; refine (hco _).mono ?_; rintro e w1 ⟨rfl, rfl⟩)
          go_ret3
          exact Hn.out
      · have f0 : ((s[0].toNat : Int) != 34) = true := by
          rw [bne_iff_ne]
          exact fun e => a0 (UInt8.toNat_inj.1 (by show s[0].toNat = 34; omega))
        have Hn := Lib.hid (Hno.out (by rw [hv, if_neg (fun h => a0 (g0.1 h.2.1))]))
        clear Hno Hsome hv g0 g1
        go_enter Try.func34, Try.ntmps34
        go_wp2_with (go_at_call 47; refine (hco _).mono ?_; rintro e w1 ⟨rfl, rfl⟩)
        go_ret3
        exact Hn.out
    · have Hn := Lib.hid (Hno.out (by rw [hv, if_neg (fun h => h2 h.1)]))
      clear Hno Hsome hv hq hl0
      go_enter Try.func34, Try.ntmps34
      go_wp2_with (go_at_call 47; refine (hco _).mono ?_; rintro e w1 ⟨rfl, rfl⟩)
      go_ret3
      exact Hn.out
  · simp only [decide_eq_false hq] at hco
    have hv : valL s.data.toList = if s.data.toList = [] then none else some (s.data.toList, 0) := by
      unfold valL; rw [if_neg hq]
    by_cases hne : s.size = 0
    · have hE : s.data.toList = [] := List.eq_nil_of_length_eq_zero (by omega)
      have hem : s.toList.isEmpty = true := by rw [ByteArray.toList_eq, hE]; rfl
      have hs0 : s = ⟨#[]⟩ := by rw [B_of s, hE]; rfl
      have Hn := Lib.hid (Hno.out (by rw [hv, if_pos hE]))
      subst hs0
      clear Hno Hsome hv hE hq hl0 hne
      go_enter Try.func34, Try.ntmps34
      go_wp2_with (go_at_call 47; refine (hco _).mono ?_; rintro e w1 ⟨rfl, rfl⟩)
      go_ret3
      exact Hn.out
    · have hE : s.data.toList ≠ [] := fun e => by rw [e] at hl0; simp at hl0; omega
      have hem : s.toList.isEmpty = false := by
        rw [ByteArray.toList_eq]
        generalize s.data.toList = l at *
        cases l with
        | nil => exact absurd rfl hE
        | cons _ _ => rfl
      have Hn := Lib.hid (Hsome.out _ _ (by rw [hv, if_neg hE]) s (B_of s))
      clear Hno Hsome hv hE hq hl0 hne
      go_enter Try.func34, Try.ntmps34
      go_wp2_with (go_at_call 47; refine (hco _).mono ?_; rintro e w1 ⟨rfl, rfl⟩)
      go_ret3
      exact Hn.out
end Go.Proofs.Ytdjeeagedcppaaa
