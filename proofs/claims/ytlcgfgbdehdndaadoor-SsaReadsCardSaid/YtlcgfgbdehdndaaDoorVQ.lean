/- Contract of the document's Parse (chapter 25), under way: rounds of the lines without a key. -/
import Derived.Test.YtlcgfgbdehdndaaDoorVP
set_option maxRecDepth 100000
set_option maxHeartbeats 4000000
namespace Go.Proofs.YtlcgfgbdehdndaaDoor
open Go Go.RowKit

def RpPost (t : List UInt8) (w0 : World) (e : Ending) (w' : World) : Prop :=
  ∃ v a, e = .returned (.tuple #[v, .int .i64 a]) ∧ RwRes (walkS ssaL (false, []) (linesL t)) w' v a ∧ Below w0.heap.size w0 w'
def Rp25 (L : List Ln) (w0 : World) (v4 v5 v6 i : Value) (wr : World) : Prop := ∃ (acc : List Pc) (k : Nat) (st : Ss), k ≤ L.length ∧ i = .int .i64 k ∧ v6 = .bool st.1 ∧ walkS ssaL (false, []) L = pre acc (walkS ssaL st (L.drop k)) ∧ acc.length + wt (L.drop k) ≤ wt L ∧ st.2.length ≤ 200000 ∧
  wr.ownsRow w0.heap.size 55 3 v4 acc.length (acc.flatMap pcV) ∧ (acc = [] → v4 = .slice none 0 0) ∧ wr.ownsRow w0.heap.size 9 1 v5 st.2.length (st.2.map vS) ∧ Below w0.heap.size w0 wr
def RfmRel (ps : List (List UInt8)) (w1 : World) (v5 i : Value) (wx : World) : Prop := ∃ j : Nat, j ≤ ps.length ∧ i = .int .i64 j ∧ wx.ownsRow w1.heap.size 9 1 v5 j (((ps.take j).map trmL).map vS) ∧ Below w1.heap.size w1 wx
theorem own_base {w : World} {b b' : Nat} {e : TypeId} {size : Nat} {v : Value} {n : Nat} {xs : List Value} (h : w.ownsRow b e size v n xs) (hb : b' ≤ b) : w.ownsRow b' e size v n xs := by
  obtain ⟨h0, h1 | ⟨g, c, cur, h1, h2, r⟩⟩ := h
  · exact ⟨h0, .inl h1⟩
  · exact ⟨h0, .inr ⟨g, c, cur, h1, Nat.le_trans hb h2, r⟩⟩
theorem RSParse_any (s : ByteArray) (hs : s.size ≤ 40000) (w : World) :
    Calls Tryd.prog 6 #[.string s] w (RpPost s.data.toList w) := by
  generalize hP : RpPost s.data.toList w = P at *
  have hl0 := len_data s
  have hwt : wt (linesL s.data.toList) ≤ 9 * s.size := by have := wt_le s.data.toList.length s.data.toList 0; unfold linesL; omega
  have hln := wt_len (linesL s.data.toList)
  have hrl := fun w => RLines_any s (by omega) w
  unfold LsPost at hrl
  have hmem : ∀ x ∈ linesL s.data.toList, x.1.length ≤ s.size := fun x hx => by have := linesF_le _ _ _ x hx; omega
  have hfin : ∀ v a w', RwRes (walkS ssaL (false, []) (linesL s.data.toList)) w' v a → Below w.heap.size w w' → P (.returned (.tuple #[v, .int .i64 a])) w' := fun v a w' h1 h2 => by rw [← hP]; exact ⟨v, a, rfl, h1, h2⟩
  clear hP
  generalize linesL s.data.toList = L at *
  have Hfin := Lib.hid hfin
  have Hmem := Lib.hid hmem
  clear hfin hmem
  go_enter Tryd.func6, Tryd.ntmps6
  go_wp2_with (go_at_call 13; refine (hrl _).mono ?_; rintro e w0 ⟨v, rfl, hr, hb0⟩; obtain ⟨A, c, rfl, hc, hA⟩ := rowsG hr; have HA := Lib.hid hA; clear hA)
  go_loopw [4, 5, 6, 8] (fun v4 v5 v6 i wr => Rp25 L w0 v4 v5 v6 i wr) (fun _ _ _ i _ => L.length - (intOf i).toNat)
  case atStart => exact ⟨[], 0, (false, []), by omega, rfl, rfl, (pre_nil _).symm, by simp, by simp, ⟨rfl, .inl ⟨rfl, rfl⟩⟩, fun _ => rfl, ⟨rfl, .inl ⟨rfl, rfl⟩⟩, Below.refl _ _⟩
  case round =>
    obtain ⟨acc, k, st, hk, rfl, rfl, hl, ha, hst, hown, h0, hownf, hb⟩ := hrel
    have HB0 : Below w.heap.size w wr := bch hb0 hb
    have hzr := hb.size
    by_cases hlt : k < L.length
    · obtain ⟨bk, rfl, hbk, hcell⟩ := HA.out (by omega)
      obtain ⟨⟨T, E, q⟩, hx⟩ : ∃ x, L[k]? = some x := ⟨L[k], List.getElem?_eq_getElem hlt⟩
      have hT : T.length ≤ s.size := Hmem.out _ (List.mem_of_getElem? hx)
      obtain ⟨c0, c1, c2⟩ := Rows3.at_ (f := lnV) (fun _ => rfl) hcell hx rfl
      have hd := wt_drop L k _ hx
      have hdl := wt_dle L k
      rw [hd] at hl ha hdl
      simp only [wt] at ha hdl
      have HC : Hid (∀ w', Below w0.heap.size w0 w' → w'.cell? ⟨bk, k * 3, none⟩ = some (.string (B T)) ∧ w'.cell? ⟨bk, k * 3 + 1, none⟩ = some (.string (B E)) ∧ w'.cell? ⟨bk, k * 3 + 2, none⟩ = some (.int .i64 q)) := Lib.hid (fun w' hb => ⟨(hb.cell (p := ⟨bk, k * 3, none⟩) hbk).trans c0, (hb.cell (p := ⟨bk, k * 3 + 1, none⟩) hbk).trans c1, (hb.cell (p := ⟨bk, k * 3 + 2, none⟩) hbk).trans c2⟩)
      obtain ⟨d0, d1, d2⟩ := HC.out _ hb
      have hsT := B_size T
      have hE1 := endP_len E
      have hky := fun W => RKey_any (B T) (by omega) W
      have hsc := fun W => RSection_any (B T) (by omega) W
      rw [B_data] at hky hsc
      have hnext : ∀ st' ps, ssaL st T = some (st', ps) → walkS ssaL (false, []) L = pre (acc ++ (ps ++ endP E)) (walkS ssaL st' (L.drop (k + 1))) := fun st' ps h => by rw [hl, walkS_some (x := (T, E, q)) h, pre_pre]
      have hstop : ssaL st T = none → walkS ssaL (false, []) L = .inr q := fun h => by rw [hl, walkS_none (x := (T, E, q)) h]; rfl
      have Hnext := Lib.hid hnext
      have Hstop := Lib.hid hstop
      have HO := Lib.hid hown
      have HF := Lib.hid hownf
      clear c0 c1 c2 hcell hd hl hnext hstop hown hownf
      by_cases hT0 : T = []
      · subst hT0
        have hem : (B []).toList.isEmpty = true := by rw [ByteArray.toList_eq, B_data]; rfl
        have Hy := Lib.hid (Hnext.out st [] rfl)
        by_cases hE : E = []
        · have hEi : (B E).toList.isEmpty = true := by rw [ByteArray.toList_eq, B_data]; rw [hE]; rfl
          have HE := Lib.hid hE
          clear hE hsc
          go_wp2_with (go_at_call 14; refine (hky _).mono ?_; rintro e w1 ⟨rfl, rfl⟩)
          go_roundw
          case rel => exact ⟨acc, k + 1, st, by omega, by simp, rfl, by rw [Hy.out, HE.out]; simp [endP], by omega, hst, HO.out, h0, HF.out, hb⟩
          case measure => simp [intOf]; omega
        · have hEi : (B E).toList.isEmpty = false := by rw [ByteArray.toList_eq, B_data]; cases E with | nil => exact absurd rfl hE | cons _ _ => rfl
          have HE := Lib.hid (show endP E = [mk E] from if_neg hE)
          clear hE hsc
          go_wp2_with (first
            | (go_at_call 14; refine (hky _).mono ?_; rintro e w1 ⟨rfl, rfl⟩)
            | (go_at_call 16; refine (Put2_any w0.heap.size u4 acc (B E) wr HO.out hzr (by omega)).mono ?_; rintro e w2 ⟨v2, rfl, ho2, hb2, hg2⟩; have HF2 := Lib.hid (own_other HO.out HF.out (by decide) hg2); rw [B_data] at ho2; have HO2 := Lib.hid ho2; have HB2 := Lib.hid (hb.trans (hb2 _ (Nat.le_refl _))); clear ho2 hb2 hg2))
          go_roundw
          case rel => exact ⟨acc ++ [mk E], k + 1, st, by omega, by simp, rfl, by rw [Hy.out, HE.out]; simp, by rw [HE.out] at hE1 ha; simp at ha ⊢; omega, hst, by rw [List.length_append]; exact HO2.out, fun e => by simp at e, HF2.out, HB2.out⟩
          case measure => simp [intOf]; omega
      · have hTl : 0 < T.length := by cases T with | nil => exact absurd rfl hT0 | cons _ _ => simp
        have h0' : 0 < (B T).size := by omega
        have hem : (B T).toList.isEmpty = false := by rw [ByteArray.toList_eq, B_data]; cases T with | nil => exact absurd rfl hT0 | cons _ _ => rfl
        have g59 := get_eq (B T) 0 h0' 59
        have g33 := get_eq (B T) 0 h0' 33
        rw [B_data] at g59 g33
        by_cases q59 : (B T)[0] = 59
        · have e59 : (((B T)[0].toNat : Int) == 59) = true := by rw [q59]; rfl
          have Hy := Lib.hid (Hnext.out st [mk (T.take 1), (false, nRemark, T.drop 1)] (by unfold ssaL; rw [if_neg hT0, if_pos (.inl (g59.2 q59))]))
          clear g59 g33 hT0 hsc
          have hS0 : Below wr.heap.size wr wr.drew := (Below.refl _ _).drew
          have hbd : Below w0.heap.size w0 wr.drew := hb.drew
          have hod : wr.drew.ownsRow w0.heap.size 55 3 u4 acc.length (acc.flatMap pcV) := own_below HO.out hS0
          have hfd : wr.drew.ownsRow w0.heap.size 9 1 u5 st.2.length (st.2.map vS) := own_below HF.out hS0
          have hx1 : ((B T).extract 0 1).data.toList = T.take 1 := by rw [B_ext, B_data, List.drop_zero]
          have hx2 : ((B T).extract 1 T.length).data.toList = T.drop 1 := by rw [B_ext, B_data, List.take_length]
          by_cases hE : E = []
          · have hEi : (B E).toList.isEmpty = true := by rw [ByteArray.toList_eq, B_data]; rw [hE]; rfl
            have he1 : endP E = [] := by rw [hE]; rfl
            have HE1 := Lib.hid he1
            rw [he1] at ha
            clear hE he1
            go_wp2_with (go_at_call 14; refine (hky _).mono ?_; rintro e w1 ⟨rfl, rfl⟩)
            refine wp_region_lin (fun _ => True) [(0, true), (1, true), (2, true), (4, true), (5, true), (3, false), (6, false), (7, true)] (by kernel_rfl) (by kernel_rfl) (by kernel_rfl) (Nat.le_of_ble_eq_true rfl) (fun _ _ d _ _ h => by cases d <;> exact h) trivial ?_
            generalize wr.drew = W0 at *
            refine' lin_pure rfl (by rfl) _ (fun W hSw => _) _
            rotate_left
            · go_simp
              try with_reducible rfl
            try simp only [Act.put, List.setIfInBounds_toArray, List.set_cons_zero, List.set_cons_succ]
            refine' lin_pure rfl (by rfl) _ (fun W hSw => _) _
            rotate_left
            · go_simp
              try with_reducible rfl
            try simp only [Act.put, List.setIfInBounds_toArray, List.set_cons_zero, List.set_cons_succ]
            refine lin_pure rfl (by rfl) (.string ((B T).extract 0 1)) (fun W hSw => by go_simp; omega) ?_
            try simp only [Act.put, List.setIfInBounds_toArray, List.set_cons_zero, List.set_cons_succ]
            refine' lin_pure rfl (by rfl) _ (fun W hSw => _) _
            rotate_left
            · go_simp
              try with_reducible rfl
            try simp only [Act.put, List.setIfInBounds_toArray, List.set_cons_zero, List.set_cons_succ]
            refine lin_pure rfl (by rfl) (.string ((B T).extract 1 T.length)) (fun W hSw => by go_simp; omega) ?_
            try simp only [Act.put, List.setIfInBounds_toArray, List.set_cons_zero, List.set_cons_succ]
            refine lin_eff rfl (by rfl) (fun K hK => ?_)
            go_simp
            refine (Put2_any w0.heap.size u4 acc ((B T).extract 0 1) W0 hod hbd.size (by omega)).mono ?_
            rintro e x2 ⟨vx2, rfl, ho2, hb2, hg2⟩
            have hf2 := own_other hod hfd (by decide) hg2
            rw [hx1] at ho2
            have hB2 := hbd.trans (hb2 _ (Nat.le_refl _))
            clear hb2 hg2
            go_wp2_with fail
            refine hK.out _ _ trivial ?_
            clear hK K
            try simp only [Act.put, List.setIfInBounds_toArray, List.set_cons_zero, List.set_cons_succ]
            refine lin_eff rfl (by rfl) (fun K hK => ?_)
            go_simp
            have ho2' : x2.ownsRow w0.heap.size 55 3 vx2 (acc ++ [mk (T.take 1)]).length ((acc ++ [mk (T.take 1)]).flatMap pcV) := by rw [List.length_append]; exact ho2
            refine (Write2_any w0.heap.size vx2 (acc ++ [mk (T.take 1)]) ⟨#[114, 101, 109, 97, 114, 107]⟩ ((B T).extract 1 T.length) x2 ho2' hB2.size (by simp; omega)).mono ?_
            rintro e x3 ⟨vx3, rfl, ho3, hb3, hg3⟩
            have HF3 := Lib.hid (own_other ho2' hf2 (by decide) hg3)
            rw [hx2] at ho3
            have HO3 : Hid (x3.ownsRow w0.heap.size 55 3 vx3 (acc ++ [mk (T.take 1)] ++ [(false, nRemark, T.drop 1)]).length ((acc ++ [mk (T.take 1)] ++ [(false, nRemark, T.drop 1)]).flatMap pcV)) := Lib.hid (by rw [List.length_append]; exact ho3)
            have HB3 := Lib.hid (hB2.trans (hb3 _ (Nat.le_refl _)))
            have hz3 := HB3.out.size
            clear hb3 hg3 ho3 ho2 ho2' hf2 hod hfd
            go_wp2_with fail
            refine hK.out _ _ trivial ?_
            clear hK K
            try simp only [Act.put, List.setIfInBounds_toArray, List.set_cons_zero, List.set_cons_succ]
            refine' lin_pure rfl (by rfl) _ (fun W hSw => _) _
            rotate_left
            · go_simp
              try with_reducible rfl
            try simp only [Act.put, List.setIfInBounds_toArray, List.set_cons_zero, List.set_cons_succ]
            refine lin_nil ?_
            obtain ⟨m0, m1, m2⟩ := HC.out _ HB3.out
            go_wp2_with fail
            go_roundw
            case rel => exact ⟨acc ++ [mk (T.take 1)] ++ [(false, nRemark, T.drop 1)], k + 1, st, by omega, by simp, rfl, by rw [Hy.out, HE1.out]; simp, by simp at ha ⊢; omega, hst, HO3.out, fun e => by simp at e, HF3.out, HB3.out⟩
            case measure => simp [intOf]; omega
          · have hEi : (B E).toList.isEmpty = false := by rw [ByteArray.toList_eq, B_data]; cases E with | nil => exact absurd rfl hE | cons _ _ => rfl
            have he1 : endP E = [mk E] := if_neg hE
            have HE1 := Lib.hid he1
            rw [he1] at ha
            clear hE he1
            go_wp2_with (go_at_call 14; refine (hky _).mono ?_; rintro e w1 ⟨rfl, rfl⟩)
            refine wp_region_lin (fun _ => True) [(0, true), (1, true), (2, true), (4, true), (5, true), (3, false), (6, false), (7, true)] (by kernel_rfl) (by kernel_rfl) (by kernel_rfl) (Nat.le_of_ble_eq_true rfl) (fun _ _ d _ _ h => by cases d <;> exact h) trivial ?_
            generalize wr.drew = W0 at *
            refine' lin_pure rfl (by rfl) _ (fun W hSw => _) _
            rotate_left
            · go_simp
              try with_reducible rfl
            try simp only [Act.put, List.setIfInBounds_toArray, List.set_cons_zero, List.set_cons_succ]
            refine' lin_pure rfl (by rfl) _ (fun W hSw => _) _
            rotate_left
            · go_simp
              try with_reducible rfl
            try simp only [Act.put, List.setIfInBounds_toArray, List.set_cons_zero, List.set_cons_succ]
            refine lin_pure rfl (by rfl) (.string ((B T).extract 0 1)) (fun W hSw => by go_simp; omega) ?_
            try simp only [Act.put, List.setIfInBounds_toArray, List.set_cons_zero, List.set_cons_succ]
            refine' lin_pure rfl (by rfl) _ (fun W hSw => _) _
            rotate_left
            · go_simp
              try with_reducible rfl
            try simp only [Act.put, List.setIfInBounds_toArray, List.set_cons_zero, List.set_cons_succ]
            refine lin_pure rfl (by rfl) (.string ((B T).extract 1 T.length)) (fun W hSw => by go_simp; omega) ?_
            try simp only [Act.put, List.setIfInBounds_toArray, List.set_cons_zero, List.set_cons_succ]
            refine lin_eff rfl (by rfl) (fun K hK => ?_)
            go_simp
            refine (Put2_any w0.heap.size u4 acc ((B T).extract 0 1) W0 hod hbd.size (by omega)).mono ?_
            rintro e x2 ⟨vx2, rfl, ho2, hb2, hg2⟩
            have hf2 := own_other hod hfd (by decide) hg2
            rw [hx1] at ho2
            have hB2 := hbd.trans (hb2 _ (Nat.le_refl _))
            clear hb2 hg2
            go_wp2_with fail
            refine hK.out _ _ trivial ?_
            clear hK K
            try simp only [Act.put, List.setIfInBounds_toArray, List.set_cons_zero, List.set_cons_succ]
            refine lin_eff rfl (by rfl) (fun K hK => ?_)
            go_simp
            have ho2' : x2.ownsRow w0.heap.size 55 3 vx2 (acc ++ [mk (T.take 1)]).length ((acc ++ [mk (T.take 1)]).flatMap pcV) := by rw [List.length_append]; exact ho2
            refine (Write2_any w0.heap.size vx2 (acc ++ [mk (T.take 1)]) ⟨#[114, 101, 109, 97, 114, 107]⟩ ((B T).extract 1 T.length) x2 ho2' hB2.size (by simp; omega)).mono ?_
            rintro e x3 ⟨vx3, rfl, ho3, hb3, hg3⟩
            have HF3 := Lib.hid (own_other ho2' hf2 (by decide) hg3)
            rw [hx2] at ho3
            have HO3 : Hid (x3.ownsRow w0.heap.size 55 3 vx3 (acc ++ [mk (T.take 1)] ++ [(false, nRemark, T.drop 1)]).length ((acc ++ [mk (T.take 1)] ++ [(false, nRemark, T.drop 1)]).flatMap pcV)) := Lib.hid (by rw [List.length_append]; exact ho3)
            have HB3 := Lib.hid (hB2.trans (hb3 _ (Nat.le_refl _)))
            have hz3 := HB3.out.size
            clear hb3 hg3 ho3 ho2 ho2' hf2 hod hfd
            go_wp2_with fail
            refine hK.out _ _ trivial ?_
            clear hK K
            try simp only [Act.put, List.setIfInBounds_toArray, List.set_cons_zero, List.set_cons_succ]
            refine' lin_pure rfl (by rfl) _ (fun W hSw => _) _
            rotate_left
            · go_simp
              try with_reducible rfl
            try simp only [Act.put, List.setIfInBounds_toArray, List.set_cons_zero, List.set_cons_succ]
            refine lin_nil ?_
            obtain ⟨m0, m1, m2⟩ := HC.out _ HB3.out
            go_wp2_with (go_at_call 16; refine (Put2_any w0.heap.size vx3 (acc ++ [mk (T.take 1)] ++ [(false, nRemark, T.drop 1)]) (B E) x3 HO3.out hz3 (by first | omega | (simp; omega))).mono ?_; rintro e x4 ⟨vx4, rfl, ho2, hb2, hg2⟩; have HFx4 := Lib.hid (own_other HO3.out HF3.out (by decide) hg2); rw [B_data] at ho2; have HOx4 := Lib.hid ho2; have HBx4 := Lib.hid (HB3.out.trans (hb2 _ (Nat.le_refl _))); have hzx4 := HBx4.out.size; clear ho2 hb2 hg2 HO3 HF3)
            go_roundw
            case rel => exact ⟨acc ++ [mk (T.take 1)] ++ [(false, nRemark, T.drop 1)] ++ [mk E], k + 1, st, by omega, by simp, rfl, by rw [Hy.out, HE1.out]; simp, by simp at ha ⊢; omega, hst, by rw [List.length_append]; exact HOx4.out, fun e => by simp at e, HFx4.out, HBx4.out⟩
            case measure => simp [intOf]; omega
        have e59 : (((B T)[0].toNat : Int) == 59) = false := by rw [beq_eq_false_iff_ne]; exact fun e => q59 (UInt8.toNat_inj.1 (by show (B T)[0].toNat = 59; omega))
        by_cases q33 : (B T)[0] = 33
        · have e33 : (((B T)[0].toNat : Int) == 33) = true := by rw [q33]; rfl
          have Hy := Lib.hid (Hnext.out st [mk (T.take 1), (false, nRemark, T.drop 1)] (by unfold ssaL; rw [if_neg hT0, if_pos (.inr (g33.2 q33))]))
          clear g59 g33 hT0 hsc
          have hS0 : Below wr.heap.size wr wr.drew := (Below.refl _ _).drew
          have hbd : Below w0.heap.size w0 wr.drew := hb.drew
          have hod : wr.drew.ownsRow w0.heap.size 55 3 u4 acc.length (acc.flatMap pcV) := own_below HO.out hS0
          have hfd : wr.drew.ownsRow w0.heap.size 9 1 u5 st.2.length (st.2.map vS) := own_below HF.out hS0
          have hx1 : ((B T).extract 0 1).data.toList = T.take 1 := by rw [B_ext, B_data, List.drop_zero]
          have hx2 : ((B T).extract 1 T.length).data.toList = T.drop 1 := by rw [B_ext, B_data, List.take_length]
          by_cases hE : E = []
          · have hEi : (B E).toList.isEmpty = true := by rw [ByteArray.toList_eq, B_data]; rw [hE]; rfl
            have he1 : endP E = [] := by rw [hE]; rfl
            have HE1 := Lib.hid he1
            rw [he1] at ha
            clear hE he1
            go_wp2_with (go_at_call 14; refine (hky _).mono ?_; rintro e w1 ⟨rfl, rfl⟩)
            refine wp_region_lin (fun _ => True) [(0, true), (1, true), (2, true), (4, true), (5, true), (3, false), (6, false), (7, true)] (by kernel_rfl) (by kernel_rfl) (by kernel_rfl) (Nat.le_of_ble_eq_true rfl) (fun _ _ d _ _ h => by cases d <;> exact h) trivial ?_
            generalize wr.drew = W0 at *
            refine' lin_pure rfl (by rfl) _ (fun W hSw => _) _
            rotate_left
            · go_simp
              try with_reducible rfl
            try simp only [Act.put, List.setIfInBounds_toArray, List.set_cons_zero, List.set_cons_succ]
            refine' lin_pure rfl (by rfl) _ (fun W hSw => _) _
            rotate_left
            · go_simp
              try with_reducible rfl
            try simp only [Act.put, List.setIfInBounds_toArray, List.set_cons_zero, List.set_cons_succ]
            refine lin_pure rfl (by rfl) (.string ((B T).extract 0 1)) (fun W hSw => by go_simp; omega) ?_
            try simp only [Act.put, List.setIfInBounds_toArray, List.set_cons_zero, List.set_cons_succ]
            refine' lin_pure rfl (by rfl) _ (fun W hSw => _) _
            rotate_left
            · go_simp
              try with_reducible rfl
            try simp only [Act.put, List.setIfInBounds_toArray, List.set_cons_zero, List.set_cons_succ]
            refine lin_pure rfl (by rfl) (.string ((B T).extract 1 T.length)) (fun W hSw => by go_simp; omega) ?_
            try simp only [Act.put, List.setIfInBounds_toArray, List.set_cons_zero, List.set_cons_succ]
            refine lin_eff rfl (by rfl) (fun K hK => ?_)
            go_simp
            refine (Put2_any w0.heap.size u4 acc ((B T).extract 0 1) W0 hod hbd.size (by omega)).mono ?_
            rintro e x2 ⟨vx2, rfl, ho2, hb2, hg2⟩
            have hf2 := own_other hod hfd (by decide) hg2
            rw [hx1] at ho2
            have hB2 := hbd.trans (hb2 _ (Nat.le_refl _))
            clear hb2 hg2
            go_wp2_with fail
            refine hK.out _ _ trivial ?_
            clear hK K
            try simp only [Act.put, List.setIfInBounds_toArray, List.set_cons_zero, List.set_cons_succ]
            refine lin_eff rfl (by rfl) (fun K hK => ?_)
            go_simp
            have ho2' : x2.ownsRow w0.heap.size 55 3 vx2 (acc ++ [mk (T.take 1)]).length ((acc ++ [mk (T.take 1)]).flatMap pcV) := by rw [List.length_append]; exact ho2
            refine (Write2_any w0.heap.size vx2 (acc ++ [mk (T.take 1)]) ⟨#[114, 101, 109, 97, 114, 107]⟩ ((B T).extract 1 T.length) x2 ho2' hB2.size (by simp; omega)).mono ?_
            rintro e x3 ⟨vx3, rfl, ho3, hb3, hg3⟩
            have HF3 := Lib.hid (own_other ho2' hf2 (by decide) hg3)
            rw [hx2] at ho3
            have HO3 : Hid (x3.ownsRow w0.heap.size 55 3 vx3 (acc ++ [mk (T.take 1)] ++ [(false, nRemark, T.drop 1)]).length ((acc ++ [mk (T.take 1)] ++ [(false, nRemark, T.drop 1)]).flatMap pcV)) := Lib.hid (by rw [List.length_append]; exact ho3)
            have HB3 := Lib.hid (hB2.trans (hb3 _ (Nat.le_refl _)))
            have hz3 := HB3.out.size
            clear hb3 hg3 ho3 ho2 ho2' hf2 hod hfd
            go_wp2_with fail
            refine hK.out _ _ trivial ?_
            clear hK K
            try simp only [Act.put, List.setIfInBounds_toArray, List.set_cons_zero, List.set_cons_succ]
            refine' lin_pure rfl (by rfl) _ (fun W hSw => _) _
            rotate_left
            · go_simp
              try with_reducible rfl
            try simp only [Act.put, List.setIfInBounds_toArray, List.set_cons_zero, List.set_cons_succ]
            refine lin_nil ?_
            obtain ⟨m0, m1, m2⟩ := HC.out _ HB3.out
            go_wp2_with fail
            go_roundw
            case rel => exact ⟨acc ++ [mk (T.take 1)] ++ [(false, nRemark, T.drop 1)], k + 1, st, by omega, by simp, rfl, by rw [Hy.out, HE1.out]; simp, by simp at ha ⊢; omega, hst, HO3.out, fun e => by simp at e, HF3.out, HB3.out⟩
            case measure => simp [intOf]; omega
          · have hEi : (B E).toList.isEmpty = false := by rw [ByteArray.toList_eq, B_data]; cases E with | nil => exact absurd rfl hE | cons _ _ => rfl
            have he1 : endP E = [mk E] := if_neg hE
            have HE1 := Lib.hid he1
            rw [he1] at ha
            clear hE he1
            go_wp2_with (go_at_call 14; refine (hky _).mono ?_; rintro e w1 ⟨rfl, rfl⟩)
            refine wp_region_lin (fun _ => True) [(0, true), (1, true), (2, true), (4, true), (5, true), (3, false), (6, false), (7, true)] (by kernel_rfl) (by kernel_rfl) (by kernel_rfl) (Nat.le_of_ble_eq_true rfl) (fun _ _ d _ _ h => by cases d <;> exact h) trivial ?_
            generalize wr.drew = W0 at *
            refine' lin_pure rfl (by rfl) _ (fun W hSw => _) _
            rotate_left
            · go_simp
              try with_reducible rfl
            try simp only [Act.put, List.setIfInBounds_toArray, List.set_cons_zero, List.set_cons_succ]
            refine' lin_pure rfl (by rfl) _ (fun W hSw => _) _
            rotate_left
            · go_simp
              try with_reducible rfl
            try simp only [Act.put, List.setIfInBounds_toArray, List.set_cons_zero, List.set_cons_succ]
            refine lin_pure rfl (by rfl) (.string ((B T).extract 0 1)) (fun W hSw => by go_simp; omega) ?_
            try simp only [Act.put, List.setIfInBounds_toArray, List.set_cons_zero, List.set_cons_succ]
            refine' lin_pure rfl (by rfl) _ (fun W hSw => _) _
            rotate_left
            · go_simp
              try with_reducible rfl
            try simp only [Act.put, List.setIfInBounds_toArray, List.set_cons_zero, List.set_cons_succ]
            refine lin_pure rfl (by rfl) (.string ((B T).extract 1 T.length)) (fun W hSw => by go_simp; omega) ?_
            try simp only [Act.put, List.setIfInBounds_toArray, List.set_cons_zero, List.set_cons_succ]
            refine lin_eff rfl (by rfl) (fun K hK => ?_)
            go_simp
            refine (Put2_any w0.heap.size u4 acc ((B T).extract 0 1) W0 hod hbd.size (by omega)).mono ?_
            rintro e x2 ⟨vx2, rfl, ho2, hb2, hg2⟩
            have hf2 := own_other hod hfd (by decide) hg2
            rw [hx1] at ho2
            have hB2 := hbd.trans (hb2 _ (Nat.le_refl _))
            clear hb2 hg2
            go_wp2_with fail
            refine hK.out _ _ trivial ?_
            clear hK K
            try simp only [Act.put, List.setIfInBounds_toArray, List.set_cons_zero, List.set_cons_succ]
            refine lin_eff rfl (by rfl) (fun K hK => ?_)
            go_simp
            have ho2' : x2.ownsRow w0.heap.size 55 3 vx2 (acc ++ [mk (T.take 1)]).length ((acc ++ [mk (T.take 1)]).flatMap pcV) := by rw [List.length_append]; exact ho2
            refine (Write2_any w0.heap.size vx2 (acc ++ [mk (T.take 1)]) ⟨#[114, 101, 109, 97, 114, 107]⟩ ((B T).extract 1 T.length) x2 ho2' hB2.size (by simp; omega)).mono ?_
            rintro e x3 ⟨vx3, rfl, ho3, hb3, hg3⟩
            have HF3 := Lib.hid (own_other ho2' hf2 (by decide) hg3)
            rw [hx2] at ho3
            have HO3 : Hid (x3.ownsRow w0.heap.size 55 3 vx3 (acc ++ [mk (T.take 1)] ++ [(false, nRemark, T.drop 1)]).length ((acc ++ [mk (T.take 1)] ++ [(false, nRemark, T.drop 1)]).flatMap pcV)) := Lib.hid (by rw [List.length_append]; exact ho3)
            have HB3 := Lib.hid (hB2.trans (hb3 _ (Nat.le_refl _)))
            have hz3 := HB3.out.size
            clear hb3 hg3 ho3 ho2 ho2' hf2 hod hfd
            go_wp2_with fail
            refine hK.out _ _ trivial ?_
            clear hK K
            try simp only [Act.put, List.setIfInBounds_toArray, List.set_cons_zero, List.set_cons_succ]
            refine' lin_pure rfl (by rfl) _ (fun W hSw => _) _
            rotate_left
            · go_simp
              try with_reducible rfl
            try simp only [Act.put, List.setIfInBounds_toArray, List.set_cons_zero, List.set_cons_succ]
            refine lin_nil ?_
            obtain ⟨m0, m1, m2⟩ := HC.out _ HB3.out
            go_wp2_with (go_at_call 16; refine (Put2_any w0.heap.size vx3 (acc ++ [mk (T.take 1)] ++ [(false, nRemark, T.drop 1)]) (B E) x3 HO3.out hz3 (by first | omega | (simp; omega))).mono ?_; rintro e x4 ⟨vx4, rfl, ho2, hb2, hg2⟩; have HFx4 := Lib.hid (own_other HO3.out HF3.out (by decide) hg2); rw [B_data] at ho2; have HOx4 := Lib.hid ho2; have HBx4 := Lib.hid (HB3.out.trans (hb2 _ (Nat.le_refl _))); have hzx4 := HBx4.out.size; clear ho2 hb2 hg2 HO3 HF3)
            go_roundw
            case rel => exact ⟨acc ++ [mk (T.take 1)] ++ [(false, nRemark, T.drop 1)] ++ [mk E], k + 1, st, by omega, by simp, rfl, by rw [Hy.out, HE1.out]; simp, by simp at ha ⊢; omega, hst, by rw [List.length_append]; exact HOx4.out, fun e => by simp at e, HFx4.out, HBx4.out⟩
            case measure => simp [intOf]; omega
        have e33 : (((B T)[0].toNat : Int) == 33) = false := by rw [beq_eq_false_iff_ne]; exact fun e => q33 (UInt8.toNat_inj.1 (by show (B T)[0].toNat = 33; omega))
        have hno : ¬ (T[0]? = some 59 ∨ T[0]? = some 33) := by rintro (e | e); exact q59 (g59.1 e); exact q33 (g33.1 e)
        clear g59 g33 q59 q33
        cases hs2 : secB T with
        | true =>
          rw [hs2] at hsc
          have hbq : ((B T).toList == [91, 69, 118, 101, 110, 116, 115, 93]) = (T == kEvents) := by rw [ByteArray.toList_eq, B_data]; rfl
          have Hy := Lib.hid (Hnext.out (T == kEvents, []) [mk T] (by unfold ssaL; rw [if_neg hT0, if_neg hno, if_pos hs2]))
          clear hs2 hno hT0
          by_cases hE : E = []
          · have hEi : (B E).toList.isEmpty = true := by rw [ByteArray.toList_eq, B_data]; rw [hE]; rfl
            have HE := Lib.hid hE
            clear hE
            have he1 : endP E = [] := by rw [HE.out]; rfl
            have HE1 := Lib.hid he1
            rw [he1] at ha
            clear he1
            go_wp2_with (first
              | (go_at_call 14; refine (hky _).mono ?_; rintro e w1 ⟨rfl, rfl⟩)
              | (go_at_call 17; refine (hsc _).mono ?_; rintro e w1 ⟨rfl, rfl⟩)
              | (go_at_call 16; (refine (Put2_any w0.heap.size u4 (acc) (B T) wr HO.out hzr (by first | omega | (simp; omega))).mono ?_; rintro e x2 ⟨vx2, rfl, ho2, hb2, hg2⟩; have HFx2 := Lib.hid (own_other HO.out HF.out (by decide) hg2); rw [B_data] at ho2; have HOx2 := Lib.hid ho2; have HBx2 := Lib.hid (hb.trans (hb2 _ (Nat.le_refl _))); have hzx2 := HBx2.out.size; clear ho2 hb2 hg2 HO HF; obtain ⟨m0, m1, m2⟩ := HC.out _ HBx2.out)))
            go_roundw
            case rel => exact ⟨acc ++ [mk T], k + 1, (T == kEvents, []), by omega, by simp, rfl, by rw [Hy.out, HE1.out]; simp, by simp at ha ⊢; omega, by simp, by rw [List.length_append]; exact HOx2.out, fun e => by simp at e, ⟨rfl, .inl ⟨rfl, rfl⟩⟩, HBx2.out⟩
            case measure => simp [intOf]; omega
          · have hEi : (B E).toList.isEmpty = false := by rw [ByteArray.toList_eq, B_data]; cases E with | nil => exact absurd rfl hE | cons _ _ => rfl
            have he1 : endP E = [mk E] := if_neg hE
            have HE1 := Lib.hid he1
            rw [he1] at ha
            clear hE he1
            go_wp2_with (first
              | (go_at_call 14; refine (hky _).mono ?_; rintro e w1 ⟨rfl, rfl⟩)
              | (go_at_call 17; refine (hsc _).mono ?_; rintro e w1 ⟨rfl, rfl⟩)
              | (go_at_call 16; first
                | (refine (Put2_any w0.heap.size u4 (acc) (B T) wr HO.out hzr (by first | omega | (simp; omega))).mono ?_; rintro e x2 ⟨vx2, rfl, ho2, hb2, hg2⟩; have HFx2 := Lib.hid (own_other HO.out HF.out (by decide) hg2); rw [B_data] at ho2; have HOx2 := Lib.hid ho2; have HBx2 := Lib.hid (hb.trans (hb2 _ (Nat.le_refl _))); have hzx2 := HBx2.out.size; clear ho2 hb2 hg2 HO HF; obtain ⟨m0, m1, m2⟩ := HC.out _ HBx2.out)
                | (refine (Put2_any w0.heap.size vx2 (acc ++ [mk T]) (B E) x2 (show x2.ownsRow w0.heap.size 55 3 vx2 (acc ++ [mk T]).length ((acc ++ [mk T]).flatMap pcV) by rw [List.length_append]; exact HOx2.out) (by omega) (by first | omega | (simp; omega))).mono ?_; rintro e x3 ⟨vx3, rfl, ho2, hb2, hg2⟩; have HFx3 := Lib.hid (own_other HOx2.out HFx2.out (by decide) hg2); rw [B_data] at ho2; have HOx3 := Lib.hid ho2; have HBx3 := Lib.hid (HBx2.out.trans (hb2 _ (Nat.le_refl _))); have hzx3 := HBx3.out.size; clear ho2 hb2 hg2 HOx2 HFx2)))
            go_roundw
            case rel => exact ⟨acc ++ [mk T] ++ [mk E], k + 1, (T == kEvents, []), by omega, by simp, rfl, by rw [Hy.out, HE1.out]; simp, by simp at ha ⊢; omega, by simp, by rw [List.length_append]; exact HOx3.out, fun e => by simp at e, ⟨rfl, .inl ⟨rfl, rfl⟩⟩, HBx3.out⟩
            case measure => simp [intOf]; omega
        | false =>
          rw [hs2] at hsc
          cases hk2 : keyL T with
          | none =>
            have hky2 : ∀ W, Calls Tryd.prog 14 #[.string (B T)] W fun e w' => e = .returned (.int .i64 0) ∧ W = w' := fun W => by have h9 := hky W; rw [hk2] at h9; exact h9
            have Hr := Lib.hid (Hstop.out (by unfold ssaL; rw [if_neg hT0, if_neg hno, hs2, if_neg (by simp), hk2]))
            clear hs2 hno hT0 hky hk2
            go_wp2_with (first
              | (go_at_call 14; refine (hky2 _).mono ?_; rintro e w1 ⟨rfl, rfl⟩)
              | (go_at_call 17; refine (hsc _).mono ?_; rintro e w1 ⟨rfl, rfl⟩))
            go_quiet (fail)
            go_wp2_with fail
            exact Hfin.out _ _ _ (.inr ⟨q, Hr.out, rfl, rfl⟩) (below_drewN HB0 _)
          | some n =>
          obtain ⟨hn0, hn2⟩ : 0 < n ∧ n + 2 ≤ T.length := by
            obtain ⟨kk, v, hs, _, hk3, _, hkn⟩ := keyL_some hk2
            have h9 := congrArg List.length hs
            have h8 : kk.length ≠ 0 := fun e => hk3 (List.eq_nil_of_length_eq_zero e)
            simp at h9
            omega
          have hky2 : ∀ W, Calls Tryd.prog 14 #[.string (B T)] W fun e w' => e = .returned (.int .i64 n) ∧ W = w' := fun W => by have h9 := hky W; rw [hk2] at h9; exact h9
          have hnz : ((n : Int) == 0) = false := by rw [beq_eq_false_iff_ne]; omega
          have e2 : IntKind.i64.wrap ((n : Int) + 2) = ((n + 2 : Nat) : Int) := by rw [IntWalk.i64_in _ (by omega)]; omega
          have hxt : ((B T).extract 0 n).data.toList = T.take n := by rw [B_ext, B_data, List.drop_zero]
          have hxh : ((B T).extract 0 (n + 2)).data.toList = T.take (n + 2) := by rw [B_ext, B_data, List.drop_zero]
          have hxd : ((B T).extract (n + 2) T.length).data.toList = T.drop (n + 2) := by rw [B_ext, B_data, List.take_length]
          by_cases hf : T.take n = kFormat
          · have hbf : (((B T).extract 0 n).toList == [70, 111, 114, 109, 97, 116]) = true := by rw [ByteArray.toList_eq, hxt, hf]; rfl
            have e3 : IntKind.i64.wrap ((T.length : Int) + 1) = ((T.length + 1 : Nat) : Int) := by rw [IntWalk.i64_in _ (by omega)]; omega
            have hct := fun W => RCut_any ((B T).extract (n + 2) T.length) (T.length + 1) (by simp; omega) (by omega) W
            rw [hxd, Nat.add_sub_cancel] at hct
            unfold CtPost at hct
            have hfm : (cutK T.length (T.drop (n + 2))).map trmL = fmtL (T.drop (n + 2)) := by
              unfold fmtL trmL
              rw [cutK_more T.length (T.drop (n + 2)).length (T.drop (n + 2)) (by rw [List.length_drop]; omega) (Nat.le_refl _)]
            have Hml := Lib.hid (cutK_mem T.length (T.drop (n + 2)))
            have hcl := (cutK_le T.length (T.drop (n + 2))).2
            rw [List.length_drop] at hcl
            have Hy := Lib.hid (Hnext.out (st.1, (cutK T.length (T.drop (n + 2))).map trmL) [mk T] (by unfold ssaL; rw [if_neg hT0, if_neg hno, hs2, if_neg (by simp), hk2, hfm]; simp only []; rw [if_pos hf]))
            have hdl3 : (T.drop (n + 2)).length ≤ 40000 := by rw [List.length_drop]; omega
            generalize cutK T.length (T.drop (n + 2)) = ps at *
            clear hfm hf hky hk2 hs2 hno hT0 hxt hxh hxd
            go_wp2_with (first
              | (go_at_call 14; refine (hky2 _).mono ?_; rintro e w1 ⟨rfl, rfl⟩)
              | (go_at_call 17; refine (hsc _).mono ?_; rintro e w1 ⟨rfl, rfl⟩)
              | (go_at_call 18; refine (hct _).mono ?_; rintro e w1 ⟨A1, c1, rfl, hc1, hr1, hb1⟩; have HR1 := Lib.hid hr1; have HB1 := Lib.hid hb1; have hz1 := hb1.size; clear hr1 hb1 hct))
            obtain ⟨wo, rfl⟩ : ∃ wo : World, wo = wr := ⟨_, rfl⟩
            go_loopw [5, 12] (fun v5 v12 wx => RfmRel ps w1 v5 v12 wx) (fun _ i _ => ps.length - (intOf i).toNat)
            case atStart => exact ⟨0, by omega, rfl, ⟨rfl, .inl ⟨rfl, rfl⟩⟩, Below.refl _ _⟩
            case round =>
              obtain ⟨j, hj, rfl, hownj, hbj⟩ := hrel
              have HOj := Lib.hid hownj
              have HBj := Lib.hid hbj
              have hzj := hbj.size
              clear hownj
              by_cases hlj : j < ps.length
              · have hlji : (j : Int) < ps.length := by omega
                obtain ⟨q1, hq1⟩ : ∃ q1, ps[j]? = some q1 := ⟨_, List.getElem?_eq_getElem hlj⟩
                obtain ⟨ad, rfl, had, cq⟩ := reads_str HR1.out hq1
                have cq' := (hbj.cell (p := ad.add j) (by rw [block_of_add]; exact had)).trans cq
                have hql := Hml.out q1 (List.mem_of_getElem? hq1)
                have hsq := B_size q1
                have htr := fun W => RTrim_any (B q1) (by omega) W
                rw [B_data] at htr
                have htk := Lib.hid (show (ps.take (j + 1)).map trmL = (ps.take j).map trmL ++ [trmL q1] by rw [List.take_add_one, hq1]; simp)
                have hjl : ((ps.take j).map trmL).length = j := by simp; omega
                clear cq hq1 hbj
                go_wp2_with (first
                  | (go_at_call 19; refine (htr _).mono ?_; rintro e w2 ⟨rfl, rfl⟩)
                  | (at_builtin; refine app_s rfl _ _ rfl w1.heap.size _ ((ps.take j).map trmL) rfl _ (trmL q1) _ rfl (by rw [hjl]; exact HOj.out) (by omega) (by omega) rfl ?_; intro v6 w6 HO6 hb6; have HB6 := Lib.hid (HBj.out.trans hb6)))
                go_roundw
                case rel => exact ⟨j + 1, by omega, by simp, by rw [htk.out]; have := HO6.out; rw [List.length_append, hjl] at this; exact this, HB6.out⟩
                case measure => simp [intOf]; omega
              · obtain rfl : j = ps.length := by omega
                have hlji : ¬ ((ps.length : Int) < ps.length) := by omega
                have HBw := Lib.hid (HB1.out.trans (hbj.mono hz1))
                have HO2 := Lib.hid (own_below HO.out HBw.out)
                have HF2 := Lib.hid (own_base HOj.out (Nat.le_trans hzr hz1))
                have HBx := Lib.hid (hb.trans (HBw.out.mono hzr))
                have hzx := HBx.out.size
                obtain ⟨m0, m1, m2⟩ := HC.out _ HBx.out
                have hpl : ((ps.take ps.length).map trmL).length = ps.length := by simp
                have Hpl := Lib.hid (show (ps.take ps.length).map trmL = ps.map trmL by rw [List.take_length])
                rw [Hpl.out] at HF2
                clear hbj hpl
                by_cases hE : E = []
                · have hEi : (B E).toList.isEmpty = true := by rw [ByteArray.toList_eq, B_data]; rw [hE]; rfl
                  have he1 : endP E = [] := by rw [hE]; rfl
                  have HE1 := Lib.hid he1
                  rw [he1] at ha
                  clear hE he1
                  go_wp2_with (go_at_call 16; refine (Put2_any w0.heap.size u4 (acc) (B T) wr HO2.out hzx (by first | omega | (simp; omega))).mono ?_; rintro e x2 ⟨vx2, rfl, ho2, hb2, hg2⟩; have HFx2 := Lib.hid (own_other HO2.out HF2.out (by decide) hg2); rw [B_data] at ho2; have HOx2 := Lib.hid ho2; have HBx2 := Lib.hid (HBx.out.trans (hb2 _ (Nat.le_refl _))); have hzx2 := HBx2.out.size; clear ho2 hb2 hg2 HO2 HF2; obtain ⟨m3, m4, m5⟩ := HC.out _ HBx2.out)
                  go_roundw
                  case rel => exact ⟨acc ++ [mk T], k + 1, (st.1, ps.map trmL), by omega, by simp, rfl, by rw [Hy.out, HE1.out]; simp, by simp at ha ⊢; omega, by simp; omega, by rw [List.length_append]; exact HOx2.out, fun e => by simp at e, by rw [List.length_map]; exact HFx2.out, HBx2.out⟩
                  case measure => simp [intOf]; omega
                · have hEi : (B E).toList.isEmpty = false := by rw [ByteArray.toList_eq, B_data]; cases E with | nil => exact absurd rfl hE | cons _ _ => rfl
                  have he1 : endP E = [mk E] := if_neg hE
                  have HE1 := Lib.hid he1
                  rw [he1] at ha
                  clear hE he1
                  go_wp2_with (go_at_call 16; first | (refine (Put2_any w0.heap.size u4 (acc) (B T) wr HO2.out hzx (by first | omega | (simp; omega))).mono ?_; rintro e x2 ⟨vx2, rfl, ho2, hb2, hg2⟩; have HFx2 := Lib.hid (own_other HO2.out HF2.out (by decide) hg2); rw [B_data] at ho2; have HOx2 := Lib.hid ho2; have HBx2 := Lib.hid (HBx.out.trans (hb2 _ (Nat.le_refl _))); have hzx2 := HBx2.out.size; clear ho2 hb2 hg2 HO2 HF2; obtain ⟨m3, m4, m5⟩ := HC.out _ HBx2.out) | (refine (Put2_any w0.heap.size vx2 (acc ++ [mk T]) (B E) x2 (show x2.ownsRow w0.heap.size 55 3 vx2 (acc ++ [mk T]).length ((acc ++ [mk T]).flatMap pcV) by rw [List.length_append]; exact HOx2.out) (by omega) (by first | omega | (simp; omega))).mono ?_; rintro e x3 ⟨vx3, rfl, ho2, hb2, hg2⟩; have HFx3 := Lib.hid (own_other HOx2.out HFx2.out (by decide) hg2); rw [B_data] at ho2; have HOx3 := Lib.hid ho2; have HBx3 := Lib.hid (HBx2.out.trans (hb2 _ (Nat.le_refl _))); have hzx3 := HBx3.out.size; clear ho2 hb2 hg2 HOx2 HFx2))
                  go_roundw
                  case rel => exact ⟨acc ++ [mk T] ++ [mk E], k + 1, (st.1, ps.map trmL), by omega, by simp, rfl, by rw [Hy.out, HE1.out]; simp, by simp at ha ⊢; omega, by simp; omega, by rw [List.length_append]; exact HOx3.out, fun e => by simp at e, by rw [List.length_map]; exact HFx3.out, HBx3.out⟩
                  case measure => simp [intOf]; omega
          · have hbf : (((B T).extract 0 n).toList == [70, 111, 114, 109, 97, 116]) = false := by
              rw [ByteArray.toList_eq, hxt, beq_eq_false_iff_ne]; exact hf
            cases hev : st.1 with
            | true =>
              obtain ⟨i0, hi, iz0, iz1, iz2⟩ := info_parts rpiece_info
              obtain ⟨Ae, ce, hAe, hce, hRe⟩ := Reads.of_own HF.out
              have hvt := REvent_any (B T) (n + 2) Ae ce st.2 (by omega) (by omega) hst wr hRe
              rw [B_data] at hvt
              rw [show ((n + 2 : Nat) : Int) = (n : Int) + 2 from rfl] at hvt
              rw [← hAe] at hvt
              clear hRe hAe hce
              unfold RPost PcPost at hvt
              have HVT := Lib.hid hvt
              clear hvt
              cases hel : evL (T.take (n + 2)) (T.drop (n + 2)) st.2 with
              | none =>
                have Hr := Lib.hid (Hstop.out (by unfold ssaL; rw [if_neg hT0, if_neg hno, hs2, if_neg (by simp), hk2]; simp only []; rw [if_neg hf, if_pos hev, hel]; rfl))
                have hvt2 : Calls Tryd.prog 20 #[.string (B T), .int .i64 ((n : Int) + 2), u5] wr fun e w' => e = .returned (.tuple #[.slice none 0 0, .bool false]) ∧ Below wr.heap.size wr w' := (HVT.out).mono fun e w' ⟨v, h1, h2, h3⟩ => by
                  rw [hel] at h1 h2
                  rcases h2 with ⟨_, rfl⟩ | ⟨_, _, h4, _⟩
                  · exact ⟨h1, h3⟩
                  · exact absurd rfl h4
                clear hf hky hk2 hs2 hno hT0 hxt hxh hxd hel HVT
                have Hev := Lib.hid hev
                clear hev
                go_wp2_with (first
                  | (go_at_call 14; refine (hky2 _).mono ?_; rintro e w1 ⟨rfl, rfl⟩)
                  | (go_at_call 17; refine (hsc _).mono ?_; rintro e w1 ⟨rfl, rfl⟩)
                  | (go_at_call 20; refine hvt2.mono ?_; rintro e w1 ⟨rfl, hb1⟩; have HB1 := bch hb hb1; obtain ⟨m0, m1, m2⟩ := HC.out _ HB1))
                go_quiet (fail)
                go_wp2_with fail
                show P (.returned (.tuple #[.slice none 0 0, .int .i64 q])) _
                exact Hfin.out _ _ _ (.inr ⟨q, Hr.out, rfl, rfl⟩) (bch hb0 (below_drewN HB1 _))
              | some ps =>
                have hlp := ssaL_len st T st ps (by unfold ssaL; rw [if_neg hT0, if_neg hno, hs2, if_neg (by simp), hk2]; simp only []; rw [if_neg hf, if_pos hev, hel]; rfl)
                have Hy := Lib.hid (Hnext.out st ps (by unfold ssaL; rw [if_neg hT0, if_neg hno, hs2, if_neg (by simp), hk2]; simp only []; rw [if_neg hf, if_pos hev, hel]; rfl))
                have hpn : ps ≠ [] := fun e => by
                  rw [e] at hel
                  unfold evL at hel
                  split at hel
                  · cases hel
                  · split at hel
                    · cases hel
                    · split at hel
                      · cases hel
                      · injection hel with h; cases h
                have hpp : 0 < ps.length := List.length_pos_iff.2 hpn
                have hvt2 : Calls Tryd.prog 20 #[.string (B T), .int .i64 ((n : Int) + 2), u5] wr fun e w' => ∃ bk c : Nat, e = .returned (.tuple #[.slice (some ⟨bk, 0, none⟩) ps.length c, .bool true]) ∧ ps.length ≤ c ∧ bk < w'.heap.size ∧ Hid (∀ j u, (ps.flatMap pcV)[j]? = some u → w'.cell? ⟨bk, j, none⟩ = some u) ∧ Below wr.heap.size wr w' := (HVT.out).mono fun e w' ⟨v, h1, h2, h3⟩ => by
                  rw [hel] at h1 h2
                  rcases h2 with ⟨h4, _⟩ | ⟨bk, c, _, h5, h6, h7, h8⟩
                  · exact absurd h4 hpn
                  · subst h5
                    exact ⟨bk, c, h1, h6, h7, Lib.hid h8, h3⟩
                have Hpn := Lib.hid hpn
                clear hf hky hk2 hs2 hno hT0 hxt hxh hxd hel HVT hpn
                have Hev := Lib.hid hev
                clear hev
                by_cases hE : E = []
                · have hEi : (B E).toList.isEmpty = true := by rw [ByteArray.toList_eq, B_data]; rw [hE]; rfl
                  have he1 : endP E = [] := by rw [hE]; rfl
                  have HE1 := Lib.hid he1
                  rw [he1] at ha
                  clear hE he1
                  go_wp2_with (first
                    | (go_at_call 14; refine (hky2 _).mono ?_; rintro e w1 ⟨rfl, rfl⟩)
                    | (go_at_call 17; refine (hsc _).mono ?_; rintro e w1 ⟨rfl, rfl⟩)
                    | (go_at_call 20; refine hvt2.mono ?_; rintro e w1 ⟨bp, cp, rfl, hcp, hbp, hcells, hb1⟩; have HB1 := bch hb hb1; have hz1 := HB1.size; obtain ⟨m0, m1, m2⟩ := HC.out _ HB1; have hown1 := own_below HO.out hb1; have HF1 := Lib.hid (own_below HF.out hb1))
                    | (at_builtin; refine wpList_append_own _ rfl _ _ 29 rfl w0.heap.size 55 i0 _ 3 40 Tryd.underlying29 hi iz0 iz1 iz2 rfl (by decide) _ acc.length _ rfl hown1 ⟨bp, 0, none⟩ ps.length cp (ps.flatMap pcV) rfl ?c0 ?c1 ?c2 ?c3 ?c4 ?c5 ?_))
                  case c0 => exact flat3 pcV pcV_len ps
                  case c1 => intro j u hu; rw [show (⟨bp, 0, none⟩ : Addr).add j = ⟨bp, j, none⟩ by unfold Addr.add; split <;> simp_all]; exact hcells.out j u hu
                  case c2 => exact pcV_one _
                  case c3 => unfold maxLen; omega
                  case c4 => omega
                  case c5 => omega
                  intro v3 w3 hown3 hg3 h03
                  have HB3 := Lib.hid (below_grownOwn HB1 hown1 hg3 (by omega) (Nat.le_refl _))
                  have hz3 := HB3.out.size
                  have HF3 := Lib.hid (own_other hown1 HF1.out (by decide) hg3)
                  obtain ⟨f0, f1, f2⟩ := HC.out _ HB3.out
                  have HO3 : Hid (w3.ownsRow w0.heap.size 55 3 v3 (acc ++ ps).length ((acc ++ ps).flatMap pcV)) := Lib.hid (by have := hown3; rw [List.length_append, List.flatMap_append]; exact this)
                  clear hown3 h03 hown1 hg3
                  go_wp2_with fail
                  go_roundw
                  case rel => exact ⟨acc ++ ps, k + 1, st, by omega, by simp, by rw [Hev.out], by rw [Hy.out, HE1.out]; simp, by simp at ha ⊢; omega, hst, HO3.out, fun e => absurd (List.append_eq_nil_iff.1 e).2 Hpn.out, HF3.out, HB3.out⟩
                  case measure => simp [intOf]; omega
                · have hEi : (B E).toList.isEmpty = false := by rw [ByteArray.toList_eq, B_data]; cases E with | nil => exact absurd rfl hE | cons _ _ => rfl
                  have he1 : endP E = [mk E] := if_neg hE
                  have HE1 := Lib.hid he1
                  rw [he1] at ha
                  clear hE he1
                  go_wp2_with (first
                    | (go_at_call 14; refine (hky2 _).mono ?_; rintro e w1 ⟨rfl, rfl⟩)
                    | (go_at_call 17; refine (hsc _).mono ?_; rintro e w1 ⟨rfl, rfl⟩)
                    | (go_at_call 20; refine hvt2.mono ?_; rintro e w1 ⟨bp, cp, rfl, hcp, hbp, hcells, hb1⟩; have HB1 := bch hb hb1; have hz1 := HB1.size; obtain ⟨m0, m1, m2⟩ := HC.out _ HB1; have hown1 := own_below HO.out hb1; have HF1 := Lib.hid (own_below HF.out hb1))
                    | (at_builtin; refine wpList_append_own _ rfl _ _ 29 rfl w0.heap.size 55 i0 _ 3 40 Tryd.underlying29 hi iz0 iz1 iz2 rfl (by decide) _ acc.length _ rfl hown1 ⟨bp, 0, none⟩ ps.length cp (ps.flatMap pcV) rfl ?c0 ?c1 ?c2 ?c3 ?c4 ?c5 ?_))
                  case c0 => exact flat3 pcV pcV_len ps
                  case c1 => intro j u hu; rw [show (⟨bp, 0, none⟩ : Addr).add j = ⟨bp, j, none⟩ by unfold Addr.add; split <;> simp_all]; exact hcells.out j u hu
                  case c2 => exact pcV_one _
                  case c3 => unfold maxLen; omega
                  case c4 => omega
                  case c5 => omega
                  intro v3 w3 hown3 hg3 h03
                  have HB3 := Lib.hid (below_grownOwn HB1 hown1 hg3 (by omega) (Nat.le_refl _))
                  have hz3 := HB3.out.size
                  have HF3 := Lib.hid (own_other hown1 HF1.out (by decide) hg3)
                  obtain ⟨f0, f1, f2⟩ := HC.out _ HB3.out
                  have HO3 : Hid (w3.ownsRow w0.heap.size 55 3 v3 (acc ++ ps).length ((acc ++ ps).flatMap pcV)) := Lib.hid (by have := hown3; rw [List.length_append, List.flatMap_append]; exact this)
                  clear hown3 h03 hown1 hg3
                  go_wp2_with (go_at_call 16; refine (Put2_any w0.heap.size v3 (acc ++ ps) (B E) w3 HO3.out hz3 (by first | omega | (simp; omega))).mono ?_; rintro e x4 ⟨vx4, rfl, ho2, hb2, hg2⟩; have HFx4 := Lib.hid (own_other HO3.out HF3.out (by decide) hg2); rw [B_data] at ho2; have HOx4 := Lib.hid ho2; have HBx4 := Lib.hid (HB3.out.trans (hb2 _ (Nat.le_refl _))); have hzx4 := HBx4.out.size; clear ho2 hb2 hg2 HO3 HF3)
                  go_roundw
                  case rel => exact ⟨acc ++ ps ++ [mk E], k + 1, st, by omega, by simp, by rw [Hev.out], by rw [Hy.out, HE1.out]; simp, by simp at ha ⊢; omega, hst, by rw [List.length_append]; exact HOx4.out, fun e => by simp at e, HFx4.out, HBx4.out⟩
                  case measure => simp [intOf]; omega
            | false =>
              have Hy := Lib.hid (Hnext.out st [mk (T.take (n + 2)), (false, T.take n, T.drop (n + 2))] (by unfold ssaL; rw [if_neg hT0, if_neg hno, hs2, if_neg (by simp), hk2]; simp only []; rw [if_neg hf, if_neg (by rw [hev]; simp)]))
              have Hev := Lib.hid hev
              clear hev hf hky hk2 hs2 hno hT0
              have hS0 : Below wr.heap.size wr wr.drew := (Below.refl _ _).drew
              have hbd : Below w0.heap.size w0 wr.drew := hb.drew
              have hod : wr.drew.ownsRow w0.heap.size 55 3 u4 acc.length (acc.flatMap pcV) := own_below HO.out hS0
              have hfd : wr.drew.ownsRow w0.heap.size 9 1 u5 st.2.length (st.2.map vS) := own_below HF.out hS0
              by_cases hE : E = []
              · have hEi : (B E).toList.isEmpty = true := by rw [ByteArray.toList_eq, B_data]; rw [hE]; rfl
                have he1 : endP E = [] := by rw [hE]; rfl
                have HE1 := Lib.hid he1
                rw [he1] at ha
                clear hE he1
                go_wp2_with (first
                  | (go_at_call 14; refine (hky2 _).mono ?_; rintro e w1 ⟨rfl, rfl⟩)
                  | (go_at_call 17; refine (hsc _).mono ?_; rintro e w1 ⟨rfl, rfl⟩))
                refine wp_region_lin (fun _ => True) [(0, true), (1, true), (2, true), (3, true), (4, true), (6, true), (7, true), (8, true), (9, true), (10, true), (11, true), (12, true), (5, false), (13, false), (14, true)] (by kernel_rfl) (by kernel_rfl) (by kernel_rfl) (Nat.le_of_ble_eq_true rfl) (fun _ _ d _ _ h => by cases d <;> exact h) trivial ?_
                generalize wr.drew = W0 at *
                refine' lin_pure rfl (by rfl) _ (fun W hSw => _) _
                rotate_left
                · go_simp
                  try with_reducible rfl
                try simp only [Act.put, List.setIfInBounds_toArray, List.set_cons_zero, List.set_cons_succ]
                refine' lin_pure rfl (by rfl) _ (fun W hSw => _) _
                rotate_left
                · go_simp
                  try with_reducible rfl
                try simp only [Act.put, List.setIfInBounds_toArray, List.set_cons_zero, List.set_cons_succ]
                refine' lin_pure rfl (by rfl) _ (fun W hSw => _) _
                rotate_left
                · go_simp
                  try with_reducible rfl
                try simp only [Act.put, List.setIfInBounds_toArray, List.set_cons_zero, List.set_cons_succ]
                refine lin_pure rfl (by rfl) (.int .i64 ((n : Int) + 2)) (fun W hSw => by go_simp) ?_
                try simp only [Act.put, List.setIfInBounds_toArray, List.set_cons_zero, List.set_cons_succ]
                refine lin_pure rfl (by rfl) (.string ((B T).extract 0 (n + 2))) (fun W hSw => by go_simp; first | omega | (rw [if_pos (by omega)]; rfl)) ?_
                try simp only [Act.put, List.setIfInBounds_toArray, List.set_cons_zero, List.set_cons_succ]
                refine' lin_pure rfl (by rfl) _ (fun W hSw => _) _
                rotate_left
                · go_simp
                  try with_reducible rfl
                try simp only [Act.put, List.setIfInBounds_toArray, List.set_cons_zero, List.set_cons_succ]
                refine' lin_pure rfl (by rfl) _ (fun W hSw => _) _
                rotate_left
                · go_simp
                  try with_reducible rfl
                try simp only [Act.put, List.setIfInBounds_toArray, List.set_cons_zero, List.set_cons_succ]
                refine lin_pure rfl (by rfl) (.string ((B T).extract 0 n)) (fun W hSw => by go_simp; first | omega | (rw [if_pos (by omega)]; rfl)) ?_
                try simp only [Act.put, List.setIfInBounds_toArray, List.set_cons_zero, List.set_cons_succ]
                refine' lin_pure rfl (by rfl) _ (fun W hSw => _) _
                rotate_left
                · go_simp
                  try with_reducible rfl
                try simp only [Act.put, List.setIfInBounds_toArray, List.set_cons_zero, List.set_cons_succ]
                refine' lin_pure rfl (by rfl) _ (fun W hSw => _) _
                rotate_left
                · go_simp
                  try with_reducible rfl
                try simp only [Act.put, List.setIfInBounds_toArray, List.set_cons_zero, List.set_cons_succ]
                refine lin_pure rfl (by rfl) (.int .i64 ((n : Int) + 2)) (fun W hSw => by go_simp) ?_
                try simp only [Act.put, List.setIfInBounds_toArray, List.set_cons_zero, List.set_cons_succ]
                refine lin_pure rfl (by rfl) (.string ((B T).extract (n + 2) T.length)) (fun W hSw => by go_simp; first | omega | (rw [if_pos (by omega)]; rfl)) ?_
                try simp only [Act.put, List.setIfInBounds_toArray, List.set_cons_zero, List.set_cons_succ]
                refine lin_eff rfl (by rfl) (fun K hK => ?_)
                go_simp
                refine (Put2_any w0.heap.size u4 acc ((B T).extract 0 (n + 2)) W0 hod hbd.size (by omega)).mono ?_
                rintro e x2 ⟨vx2, rfl, ho2, hb2, hg2⟩
                have hf2 := own_other hod hfd (by decide) hg2
                rw [hxh] at ho2
                have hB2 := hbd.trans (hb2 _ (Nat.le_refl _))
                clear hb2 hg2
                go_wp2_with fail
                refine hK.out _ _ trivial ?_
                clear hK K
                try simp only [Act.put, List.setIfInBounds_toArray, List.set_cons_zero, List.set_cons_succ]
                refine lin_eff rfl (by rfl) (fun K hK => ?_)
                go_simp
                have ho2' : x2.ownsRow w0.heap.size 55 3 vx2 (acc ++ [mk (T.take (n + 2))]).length ((acc ++ [mk (T.take (n + 2))]).flatMap pcV) := by rw [List.length_append]; exact ho2
                refine (Write2_any w0.heap.size vx2 (acc ++ [mk (T.take (n + 2))]) ((B T).extract 0 n) ((B T).extract (n + 2) T.length) x2 ho2' hB2.size (by simp; omega)).mono ?_
                rintro e x3 ⟨vx3, rfl, ho3, hb3, hg3⟩
                have HF3 := Lib.hid (own_other ho2' hf2 (by decide) hg3)
                rw [hxt, hxd] at ho3
                have HO3 : Hid (x3.ownsRow w0.heap.size 55 3 vx3 (acc ++ [mk (T.take (n + 2))] ++ [(false, T.take n, T.drop (n + 2))]).length ((acc ++ [mk (T.take (n + 2))] ++ [(false, T.take n, T.drop (n + 2))]).flatMap pcV)) := Lib.hid (by rw [List.length_append]; exact ho3)
                have HB3 := Lib.hid (hB2.trans (hb3 _ (Nat.le_refl _)))
                have hz3 := HB3.out.size
                clear hb3 hg3 ho3 ho2 ho2' hf2 hod hfd
                go_wp2_with fail
                refine hK.out _ _ trivial ?_
                clear hK K
                try simp only [Act.put, List.setIfInBounds_toArray, List.set_cons_zero, List.set_cons_succ]
                refine' lin_pure rfl (by rfl) _ (fun W hSw => _) _
                rotate_left
                · go_simp
                  try with_reducible rfl
                try simp only [Act.put, List.setIfInBounds_toArray, List.set_cons_zero, List.set_cons_succ]
                refine lin_nil ?_
                obtain ⟨m0, m1, m2⟩ := HC.out _ HB3.out
                go_wp2_with fail
                go_roundw
                case rel => exact ⟨acc ++ [mk (T.take (n + 2))] ++ [(false, T.take n, T.drop (n + 2))], k + 1, st, by omega, by simp, by rw [Hev.out], by rw [Hy.out, HE1.out]; simp, by simp at ha ⊢; omega, hst, HO3.out, fun e => by simp at e, HF3.out, HB3.out⟩
                case measure => simp [intOf]; omega
              · have hEi : (B E).toList.isEmpty = false := by rw [ByteArray.toList_eq, B_data]; cases E with | nil => exact absurd rfl hE | cons _ _ => rfl
                have he1 : endP E = [mk E] := if_neg hE
                have HE1 := Lib.hid he1
                rw [he1] at ha
                clear hE he1
                go_wp2_with (first
                  | (go_at_call 14; refine (hky2 _).mono ?_; rintro e w1 ⟨rfl, rfl⟩)
                  | (go_at_call 17; refine (hsc _).mono ?_; rintro e w1 ⟨rfl, rfl⟩))
                refine wp_region_lin (fun _ => True) [(0, true), (1, true), (2, true), (3, true), (4, true), (6, true), (7, true), (8, true), (9, true), (10, true), (11, true), (12, true), (5, false), (13, false), (14, true)] (by kernel_rfl) (by kernel_rfl) (by kernel_rfl) (Nat.le_of_ble_eq_true rfl) (fun _ _ d _ _ h => by cases d <;> exact h) trivial ?_
                generalize wr.drew = W0 at *
                refine' lin_pure rfl (by rfl) _ (fun W hSw => _) _
                rotate_left
                · go_simp
                  try with_reducible rfl
                try simp only [Act.put, List.setIfInBounds_toArray, List.set_cons_zero, List.set_cons_succ]
                refine' lin_pure rfl (by rfl) _ (fun W hSw => _) _
                rotate_left
                · go_simp
                  try with_reducible rfl
                try simp only [Act.put, List.setIfInBounds_toArray, List.set_cons_zero, List.set_cons_succ]
                refine' lin_pure rfl (by rfl) _ (fun W hSw => _) _
                rotate_left
                · go_simp
                  try with_reducible rfl
                try simp only [Act.put, List.setIfInBounds_toArray, List.set_cons_zero, List.set_cons_succ]
                refine lin_pure rfl (by rfl) (.int .i64 ((n : Int) + 2)) (fun W hSw => by go_simp) ?_
                try simp only [Act.put, List.setIfInBounds_toArray, List.set_cons_zero, List.set_cons_succ]
                refine lin_pure rfl (by rfl) (.string ((B T).extract 0 (n + 2))) (fun W hSw => by go_simp; first | omega | (rw [if_pos (by omega)]; rfl)) ?_
                try simp only [Act.put, List.setIfInBounds_toArray, List.set_cons_zero, List.set_cons_succ]
                refine' lin_pure rfl (by rfl) _ (fun W hSw => _) _
                rotate_left
                · go_simp
                  try with_reducible rfl
                try simp only [Act.put, List.setIfInBounds_toArray, List.set_cons_zero, List.set_cons_succ]
                refine' lin_pure rfl (by rfl) _ (fun W hSw => _) _
                rotate_left
                · go_simp
                  try with_reducible rfl
                try simp only [Act.put, List.setIfInBounds_toArray, List.set_cons_zero, List.set_cons_succ]
                refine lin_pure rfl (by rfl) (.string ((B T).extract 0 n)) (fun W hSw => by go_simp; first | omega | (rw [if_pos (by omega)]; rfl)) ?_
                try simp only [Act.put, List.setIfInBounds_toArray, List.set_cons_zero, List.set_cons_succ]
                refine' lin_pure rfl (by rfl) _ (fun W hSw => _) _
                rotate_left
                · go_simp
                  try with_reducible rfl
                try simp only [Act.put, List.setIfInBounds_toArray, List.set_cons_zero, List.set_cons_succ]
                refine' lin_pure rfl (by rfl) _ (fun W hSw => _) _
                rotate_left
                · go_simp
                  try with_reducible rfl
                try simp only [Act.put, List.setIfInBounds_toArray, List.set_cons_zero, List.set_cons_succ]
                refine lin_pure rfl (by rfl) (.int .i64 ((n : Int) + 2)) (fun W hSw => by go_simp) ?_
                try simp only [Act.put, List.setIfInBounds_toArray, List.set_cons_zero, List.set_cons_succ]
                refine lin_pure rfl (by rfl) (.string ((B T).extract (n + 2) T.length)) (fun W hSw => by go_simp; first | omega | (rw [if_pos (by omega)]; rfl)) ?_
                try simp only [Act.put, List.setIfInBounds_toArray, List.set_cons_zero, List.set_cons_succ]
                refine lin_eff rfl (by rfl) (fun K hK => ?_)
                go_simp
                refine (Put2_any w0.heap.size u4 acc ((B T).extract 0 (n + 2)) W0 hod hbd.size (by omega)).mono ?_
                rintro e x2 ⟨vx2, rfl, ho2, hb2, hg2⟩
                have hf2 := own_other hod hfd (by decide) hg2
                rw [hxh] at ho2
                have hB2 := hbd.trans (hb2 _ (Nat.le_refl _))
                clear hb2 hg2
                go_wp2_with fail
                refine hK.out _ _ trivial ?_
                clear hK K
                try simp only [Act.put, List.setIfInBounds_toArray, List.set_cons_zero, List.set_cons_succ]
                refine lin_eff rfl (by rfl) (fun K hK => ?_)
                go_simp
                have ho2' : x2.ownsRow w0.heap.size 55 3 vx2 (acc ++ [mk (T.take (n + 2))]).length ((acc ++ [mk (T.take (n + 2))]).flatMap pcV) := by rw [List.length_append]; exact ho2
                refine (Write2_any w0.heap.size vx2 (acc ++ [mk (T.take (n + 2))]) ((B T).extract 0 n) ((B T).extract (n + 2) T.length) x2 ho2' hB2.size (by simp; omega)).mono ?_
                rintro e x3 ⟨vx3, rfl, ho3, hb3, hg3⟩
                have HF3 := Lib.hid (own_other ho2' hf2 (by decide) hg3)
                rw [hxt, hxd] at ho3
                have HO3 : Hid (x3.ownsRow w0.heap.size 55 3 vx3 (acc ++ [mk (T.take (n + 2))] ++ [(false, T.take n, T.drop (n + 2))]).length ((acc ++ [mk (T.take (n + 2))] ++ [(false, T.take n, T.drop (n + 2))]).flatMap pcV)) := Lib.hid (by rw [List.length_append]; exact ho3)
                have HB3 := Lib.hid (hB2.trans (hb3 _ (Nat.le_refl _)))
                have hz3 := HB3.out.size
                clear hb3 hg3 ho3 ho2 ho2' hf2 hod hfd
                go_wp2_with fail
                refine hK.out _ _ trivial ?_
                clear hK K
                try simp only [Act.put, List.setIfInBounds_toArray, List.set_cons_zero, List.set_cons_succ]
                refine' lin_pure rfl (by rfl) _ (fun W hSw => _) _
                rotate_left
                · go_simp
                  try with_reducible rfl
                try simp only [Act.put, List.setIfInBounds_toArray, List.set_cons_zero, List.set_cons_succ]
                refine lin_nil ?_
                obtain ⟨m0, m1, m2⟩ := HC.out _ HB3.out
                go_wp2_with (go_at_call 16; refine (Put2_any w0.heap.size vx3 (acc ++ [mk (T.take (n + 2))] ++ [(false, T.take n, T.drop (n + 2))]) (B E) x3 HO3.out hz3 (by first | omega | (simp; omega))).mono ?_; rintro e x4 ⟨vx4, rfl, ho2, hb2, hg2⟩; have HFx4 := Lib.hid (own_other HO3.out HF3.out (by decide) hg2); rw [B_data] at ho2; have HOx4 := Lib.hid ho2; have HBx4 := Lib.hid (HB3.out.trans (hb2 _ (Nat.le_refl _))); have hzx4 := HBx4.out.size; clear ho2 hb2 hg2 HO3 HF3)
                go_roundw
                case rel => exact ⟨acc ++ [mk (T.take (n + 2))] ++ [(false, T.take n, T.drop (n + 2))] ++ [mk E], k + 1, st, by omega, by simp, by rw [Hev.out], by rw [Hy.out, HE1.out]; simp, by simp at ha ⊢; omega, hst, by rw [List.length_append]; exact HOx4.out, fun e => by simp at e, HFx4.out, HBx4.out⟩
                case measure => simp [intOf]; omega
    · have hk2 : k = L.length := by omega
      have he : walkS ssaL (false, []) L = .inl acc := by rw [hl, List.drop_of_length_le (by omega)]; simp [walkS, pre]
      have He := Lib.hid he
      have HO := Lib.hid hown
      clear hl he hown hownf
      go_wp2_with fail
      exact Hfin.out _ _ _ (.inl ⟨acc, He.out, Rows3.of_own rfl HO.out h0, rfl⟩) HB0
end Go.Proofs.YtlcgfgbdehdndaaDoor
