/- Contract of the reference's Piece. -/
import Derived.Test.YtmfnnggnnnagiaaDoorRR
import Derived.Test.YtmfnnggnnnagiaaDoorP5
set_option maxRecDepth 100000
set_option maxHeartbeats 4000000
namespace Go.Proofs.YtmfnnggnnnagiaaDoor
open Go Go.RowKit

def RpPost (p : Pce) (w0 : World) (e : Ending) (w' : World) : Prop := (match rowOf p with
  | none => e = .returned (.tuple #[.slice none 0 0, .bool false])
  | some r => ∃ A c, e = .returned (.tuple #[.slice A (prs r).length c, .bool true]) ∧ (prs r).length ≤ c ∧ PrsL w' w'.heap.size A (prs r)) ∧ Below w0.heap.size w0 w'
def PcRel (r : Rw) (base : Nat) (W0 : World) (v i : Value) (wr : World) : Prop := ∃ k : Nat, k ≤ r.2.1 ∧ i = .int .i64 k ∧ wr.ownsRow base 40 2 v ((prs r).take k).length (((prs r).take k).flatMap prV) ∧ Below base W0 wr ∧ base ≤ wr.heap.size
theorem RPiece_any (p : Pce) (hp : PceOk p) (hs : p.2.2.2.1.size ≤ 1000000) (w : World) :
    Calls Tryd.prog 26 #[.int .i64 p.1, .int .i32 p.2.1, .int .i64 p.2.2.1, .string p.2.2.2.1] w (RpPost p w) := by
  have HN : Hid (rowOf p = none → ∀ w', Below w.heap.size w w' → RpPost p w (.returned (.tuple #[.slice none 0 0, .bool false])) w') := Lib.hid fun h w' hb => ⟨by rw [h], hb⟩
  have HY : Hid (∀ r A c w', rowOf p = some r → (prs r).length ≤ c → PrsL w' w'.heap.size A (prs r) → Below w.heap.size w w' → RpPost p w (.returned (.tuple #[.slice A (prs r).length c, .bool true])) w') := Lib.hid fun r A c w' h hc hr hb => ⟨by rw [h]; exact ⟨A, c, rfl, hc, hr⟩, hb⟩
  generalize RpPost p w = P at *
  obtain ⟨f, t, n, s, q⟩ := p
  obtain ⟨hg, hf, ht, hn⟩ := hp
  simp only at hg hf ht hn hs
  have hrow : rowOf (f, t, n, s, q) = if s.size ≠ 0 then
      match q with
      | some ps => if 0 ≤ f ∧ f + ps.length ≤ 1048576 then some (f.toNat, ps.length, 0, some ps) else none
      | none => none
    else if 0 ≤ f ∧ 1 ≤ n ∧ f + n ≤ 1048576 ∧ scalarB t = true ∧ scalarB (t + n - 1) = true ∧ (t < 55296 ↔ t + n - 1 < 55296) then some (f.toNat, n.toNat, t, none)
    else none := rfl
  show Calls _ _ #[.int .i64 f, .int .i32 t, .int .i64 n, .string s] _ _
  by_cases hz : s.size = 0
  · rw [if_neg (by simpa using hz)] at hrow
    have hem : s.toList.isEmpty = true := by
      rw [ByteArray.toList_eq, show s.data.toList = [] from List.eq_nil_of_length_eq_zero (by simpa using hz)]; rfl
    clear hg
    have hsc := fun w => RScalar_any t w
    by_cases hyes : 0 ≤ f ∧ 1 ≤ n ∧ f + n ≤ 1048576
    · cases hst : scalarB t with
      | false =>
        rw [if_neg (fun h => by rw [hst] at h; cases h.2.2.2.1)] at hrow
        have Hf := Lib.hid (HN.out hrow)
        rw [hst] at hsc
        clear HN HY hrow
        have c1 : ¬ f < 0 := by omega
        have c2 : ¬ n < 1 := by omega
        have c3 : ¬ (1048576 : Int) < n := by omega
        have c4 : ¬ 1048576 - n < f := by omega
        go_enter Tryd.func26, Tryd.ntmps26
        go_wp2_with (go_at_call 45; refine (hsc _).mono ?_; rintro e w1 ⟨rfl, rfl⟩)
        exact Hf.out _ (Below.refl _ _)
      | true =>
        rw [hst] at hsc
        have h1 := scalar_rng hst
        obtain ⟨fn, rfl⟩ : ∃ fn : Nat, f = (fn : Int) := ⟨f.toNat, by omega⟩
        obtain ⟨nn, rfl⟩ : ∃ nn : Nat, n = (nn : Int) := ⟨n.toNat, by omega⟩
        have c1 : ¬ (fn : Int) < 0 := by omega
        have c2 : ¬ (nn : Int) < 1 := by omega
        have c3 : ¬ (1048576 : Int) < nn := by omega
        have c4 : ¬ 1048576 - (nn : Int) < fn := by omega
        have e1 : IntKind.i32.wrap (nn : Int) = (nn : Int) := IntWalk.i32_in _ (by omega)
        have e2 : IntKind.i32.wrap (t + (nn : Int)) = t + (nn : Int) := IntWalk.i32_in _ (by omega)
        have e3 : IntKind.i32.wrap (t + (nn : Int) - 1) = t + (nn : Int) - 1 := IntWalk.i32_in _ (by omega)
        have hsl := fun w => RScalar_any (t + (nn : Int) - 1) w
        cases hsl2 : scalarB (t + (nn : Int) - 1) with
        | false =>
          rw [if_neg (fun h => by rw [hsl2] at h; cases h.2.2.2.2.1)] at hrow
          have Hf := Lib.hid (HN.out hrow)
          rw [hsl2] at hsl
          clear HN HY hrow
          go_enter Tryd.func26, Tryd.ntmps26
          go_wp2_with (go_at_call 45; first | (refine (hsc _).mono ?_; rintro e w1 ⟨rfl, rfl⟩; clear hsc) | (refine (hsl _).mono ?_; rintro e w1 ⟨rfl, rfl⟩))
          exact Hf.out _ (Below.refl _ _)
        | true =>
          rw [hsl2] at hsl
          have h2 := hsl2
          unfold scalarB at h2
          simp only [decide_eq_true_eq] at h2
          by_cases hgap : t < 55296 ↔ t + (nn : Int) - 1 < 55296
          · rw [if_pos ⟨hyes.1, hyes.2.1, hyes.2.2, hst, hsl2, hgap⟩] at hrow
            simp only [Int.toNat_natCast] at hrow
            generalize hr : (fn, nn, t, (none : Option (List Int))) = r at *
            have hr1 : r.1 = fn := by rw [← hr]
            have hr2 : r.2.1 = nn := by rw [← hr]
            have hr3 : ∀ i, sgAt r i = t + i := fun i => by rw [← hr]; rfl
            have Hf := Lib.hid (HY.out r · · · hrow)
            clear HN HY hrow hr
            by_cases hg1 : t < 55296
            · have hg2 : ¬ (57343 : Int) < t + (nn : Int) - 1 := by omega
              clear hgap h2
              go_enter Tryd.func26, Tryd.ntmps26
              go_wp2_with (go_at_call 45; first | (refine (hsc _).mono ?_; rintro e w1 ⟨rfl, rfl⟩; clear hsc) | (refine (hsl _).mono ?_; rintro e w1 ⟨rfl, rfl⟩))
              go_loopw [15, 16] (fun v i wr => PcRel r w.heap.size w v i wr) (fun _ i _ => nn - (intOf i).toNat)
              case atStart => exact ⟨0, by omega, rfl, ⟨rfl, .inl ⟨rfl, rfl⟩⟩, Below.refl _ _, Nat.le_refl _⟩
              case round =>
                obtain ⟨k, hk, rfl, ho, hb, hbs⟩ := hrel
                by_cases hlt : k < nn
                · have hlen : ((prs r).take k).length = k := by rw [List.length_take, prs_len]; omega
                  have hnx := prs_take r k (by omega)
                  rw [hr3, hr1] at hnx
                  have HO := Lib.hid ho
                  have HB := Lib.hid hb
                  have Hnx := Lib.hid hnx
                  have Hlen := Lib.hid hlen
                  clear ho hb hnx hlen
                  have e5 : IntKind.i32.wrap (k : Int) = (k : Int) := IntWalk.i32_in _ (by omega)
                  have e6 : IntKind.i32.wrap (t + (k : Int)) = t + (k : Int) := IntWalk.i32_in _ (by omega)
                  go_wp2_with (at_builtin; refine app_pr rfl _ _ rfl w.heap.size u15 ((prs r).take k) rfl wr (fn + k, t + k) HO.out hbs (by rw [Hlen.out]; omega) rfl _ _ (by simp) rfl ?_; clear HO; intro v6 w6 HO6 hb6; have HB6 := Lib.hid (HB.out.trans hb6); have hz6 := HB6.out.size)
                  exact ⟨⟨k + 1, by omega, by simp, by rw [Hnx.out]; exact HO6.out, HB6.out, by omega⟩, by simp [intOf]; omega⟩
                · obtain rfl : k = nn := by omega
                  rw [List.take_of_length_le (by rw [prs_len]; omega)] at ho
                  obtain ⟨A6, c6, rfl, hc6, hr6⟩ := Reads.of_own ho
                  have Hr6 := Lib.hid hr6
                  clear hr6 ho
                  go_wp2_with fail
                  exact Hf.out A6 c6 _ hc6 Hr6.out hb
            · clear hgap h2
              go_enter Tryd.func26, Tryd.ntmps26
              go_wp2_with (go_at_call 45; first | (refine (hsc _).mono ?_; rintro e w1 ⟨rfl, rfl⟩; clear hsc) | (refine (hsl _).mono ?_; rintro e w1 ⟨rfl, rfl⟩))
              go_loopw [15, 16] (fun v i wr => PcRel r w.heap.size w v i wr) (fun _ i _ => nn - (intOf i).toNat)
              case atStart => exact ⟨0, by omega, rfl, ⟨rfl, .inl ⟨rfl, rfl⟩⟩, Below.refl _ _, Nat.le_refl _⟩
              case round =>
                obtain ⟨k, hk, rfl, ho, hb, hbs⟩ := hrel
                by_cases hlt : k < nn
                · have hlen : ((prs r).take k).length = k := by rw [List.length_take, prs_len]; omega
                  have hnx := prs_take r k (by omega)
                  rw [hr3, hr1] at hnx
                  have HO := Lib.hid ho
                  have HB := Lib.hid hb
                  have Hnx := Lib.hid hnx
                  have Hlen := Lib.hid hlen
                  clear ho hb hnx hlen
                  have e5 : IntKind.i32.wrap (k : Int) = (k : Int) := IntWalk.i32_in _ (by omega)
                  have e6 : IntKind.i32.wrap (t + (k : Int)) = t + (k : Int) := IntWalk.i32_in _ (by omega)
                  go_wp2_with (at_builtin; refine app_pr rfl _ _ rfl w.heap.size u15 ((prs r).take k) rfl wr (fn + k, t + k) HO.out hbs (by rw [Hlen.out]; omega) rfl _ _ (by simp) rfl ?_; clear HO; intro v6 w6 HO6 hb6; have HB6 := Lib.hid (HB.out.trans hb6); have hz6 := HB6.out.size)
                  exact ⟨⟨k + 1, by omega, by simp, by rw [Hnx.out]; exact HO6.out, HB6.out, by omega⟩, by simp [intOf]; omega⟩
                · obtain rfl : k = nn := by omega
                  rw [List.take_of_length_le (by rw [prs_len]; omega)] at ho
                  obtain ⟨A6, c6, rfl, hc6, hr6⟩ := Reads.of_own ho
                  have Hr6 := Lib.hid hr6
                  clear hr6 ho
                  go_wp2_with fail
                  exact Hf.out A6 c6 _ hc6 Hr6.out hb
          · have hg1 : t < 55296 := by omega
            have hg2 : (57343 : Int) < t + (nn : Int) - 1 := by omega
            rw [if_neg (fun h => hgap h.2.2.2.2.2)] at hrow
            have Hf := Lib.hid (HN.out hrow)
            clear HN HY hrow hgap h2
            go_enter Tryd.func26, Tryd.ntmps26
            go_wp2_with (go_at_call 45; first | (refine (hsc _).mono ?_; rintro e w1 ⟨rfl, rfl⟩; clear hsc) | (refine (hsl _).mono ?_; rintro e w1 ⟨rfl, rfl⟩))
            exact Hf.out _ (Below.refl _ _)
    · rw [if_neg (fun h => hyes ⟨h.1, h.2.1, h.2.2.1⟩)] at hrow
      have Hf := Lib.hid (HN.out hrow)
      clear HN HY hrow hsc
      by_cases c1 : f < 0
      · go_enter Tryd.func26, Tryd.ntmps26
        go_wp2_with fail
        exact Hf.out _ (Below.refl _ _)
      · by_cases c2 : n < 1
        · go_enter Tryd.func26, Tryd.ntmps26
          go_wp2_with fail
          exact Hf.out _ (Below.refl _ _)
        · by_cases c3 : (1048576 : Int) < n
          · go_enter Tryd.func26, Tryd.ntmps26
            go_wp2_with fail
            exact Hf.out _ (Below.refl _ _)
          · have c4 : 1048576 - n < f := by omega
            go_enter Tryd.func26, Tryd.ntmps26
            go_wp2_with fail
            exact Hf.out _ (Below.refl _ _)
  · rw [if_pos (by simpa using hz)] at hrow
    have hem : s.toList.isEmpty = false := by
      have := (show s.data.toList.length = s.size by simp)
      rw [ByteArray.toList_eq]
      generalize s.data.toList = l at *
      cases l with
      | nil => simp at this; omega
      | cons _ _ => rfl
    cases q with
    | none =>
      obtain ⟨k, hbad⟩ := hg
      have hc := fun w => RPoints_bad s k hbad (by omega) w
      have Hf := Lib.hid (HN.out hrow)
      clear HN HY hrow
      go_enter Tryd.func26, Tryd.ntmps26
      go_wp2_with (go_at_call 44; refine (hc _).mono ?_; rintro e w1 ⟨rfl, hb1⟩)
      exact Hf.out _ hb1
    | some ps =>
      have hg : Good s ps := hg
      have hl1 := good_pos hg hz
      have hl2 := hg.len
      have hc := fun w => RPoints_good s ps hg (by omega) w
      simp only at hrow
      by_cases hyes : 0 ≤ f ∧ f + ps.length ≤ 1048576
      · rw [if_pos hyes] at hrow
        obtain ⟨fn, rfl⟩ : ∃ fn : Nat, f = (fn : Int) := ⟨f.toNat, by omega⟩
        simp only [Int.toNat_natCast] at hrow
        generalize hr : (fn, ps.length, (0 : Int), some ps) = r at *
        have hr1 : r.1 = fn := by rw [← hr]
        have hr2 : r.2.1 = ps.length := by rw [← hr]
        have hr3 : ∀ i, sgAt r i = ps.getD i 0 := fun i => by rw [← hr]; rfl
        have Hf := Lib.hid (HY.out r · · · hrow)
        clear HN HY hrow hr
        have c1 : ¬ (fn : Int) < 0 := by omega
        have c2 : ¬ 1048576 - (ps.length : Int) < fn := by omega
        go_enter Tryd.func26, Tryd.ntmps26
        go_wp2_with (go_at_call 44; refine (hc _).mono ?_; rintro e w1 ⟨A1, cc1, rfl, hcc1, hnum, hb1⟩; have HN1 := Lib.hid hnum; clear hnum)
        go_loopw [12, 13] (fun v i wr => PcRel r w1.heap.size w1 v i wr) (fun _ i _ => ps.length - (intOf i).toNat)
        case atStart => exact ⟨0, by omega, rfl, ⟨rfl, .inl ⟨rfl, rfl⟩⟩, Below.refl _ _, Nat.le_refl _⟩
        case round =>
          obtain ⟨k, hk, rfl, ho, hb, hbs⟩ := hrel
          by_cases hlt : k < ps.length
          · obtain ⟨ad, rfl, hbk, y0⟩ := (HN1.out.below hb).at_ hlt
            have hlen : ((prs r).take k).length = k := by rw [List.length_take, prs_len]; omega
            have hnx := prs_take r k (by omega)
            rw [hr3, hr1] at hnx
            generalize ps.getD k 0 = sg at *
            have HO := Lib.hid ho
            have HB := Lib.hid hb
            have Hnx := Lib.hid hnx
            have Hlen := Lib.hid hlen
            clear ho hb hnx hlen
            go_wp2_with (at_builtin; refine app_pr rfl _ _ rfl w1.heap.size u12 ((prs r).take k) rfl wr (fn + k, sg) HO.out hbs (by rw [Hlen.out]; omega) rfl _ _ (by simp) rfl ?_; clear HO; intro v6 w6 HO6 hb6; have HB6 := Lib.hid (HB.out.trans hb6); have hz6 := HB6.out.size)
            exact ⟨⟨k + 1, by omega, by simp, by rw [Hnx.out]; exact HO6.out, HB6.out, by omega⟩, by simp [intOf]; omega⟩
          · obtain rfl : k = ps.length := by omega
            rw [List.take_of_length_le (by rw [prs_len]; omega)] at ho
            obtain ⟨A6, c6, rfl, hc6, hr6⟩ := Reads.of_own ho
            have Hr6 := Lib.hid hr6
            have hl6 : (prs r).length = ps.length := by rw [prs_len, hr2]
            clear hr6 ho
            go_wp2_with fail
            have := Hf.out A6 c6 _ hc6 Hr6.out (hb1.trans (hb.mono (by have := hb1.size; omega)))
            exact this
      · rw [if_neg hyes] at hrow
        have Hf := Lib.hid (HN.out hrow)
        clear HN HY hrow
        by_cases c1 : f < 0
        · go_enter Tryd.func26, Tryd.ntmps26
          go_wp2_with (go_at_call 44; refine (hc _).mono ?_; rintro e w1 ⟨A1, cc1, rfl, hcc1, hnum, hb1⟩; have HN1 := Lib.hid hnum; clear hnum)
          exact Hf.out _ hb1
        · have c2 : 1048576 - (ps.length : Int) < f := by omega
          go_enter Tryd.func26, Tryd.ntmps26
          go_wp2_with (go_at_call 44; refine (hc _).mono ?_; rintro e w1 ⟨A1, cc1, rfl, hcc1, hnum, hb1⟩; have HN1 := Lib.hid hnum; clear hnum)
          exact Hf.out _ hb1
end Go.Proofs.YtmfnnggnnnagiaaDoor
