/- Contract of (*script).event; condition: at most 100,000 bytes. -/
import Derived.Test.YtlcgfgbdehdndaaDoorVE
set_option maxRecDepth 100000
set_option maxHeartbeats 8000000
namespace Go.Proofs.YtlcgfgbdehdndaaDoor
open Go Go.RowKit

abbrev RPost (r : Option (List Pc)) (w : World) (e : Ending) (w' : World) : Prop := PcPost (fun _ => r) [] w e w'
theorem cut_min (n : Nat) (s : List UInt8) (hn : 1 ≤ n) : cutK (min n (s.length + 1) - 1) s = cutK (n - 1) s := by
  rcases Nat.lt_or_ge n (s.length + 1) with h | h
  · rw [Nat.min_eq_left (by omega)]
  · rw [Nat.min_eq_right h, Nat.add_sub_cancel]
    exact cutK_more _ _ s (Nat.le_refl _) (by omega)
theorem SplitN_any (s : ByteArray) (n : Nat) (hs : s.size ≤ 100000) (hn : 1 ≤ n) (hn2 : n ≤ 200000) (w : World) (hm : ML w) :
    Calls Tryd.prog 43 #[.string s, .string ⟨#[44]⟩, .int .i64 n] w fun e w' => ∃ c, e = .returned (.slice (some ⟨w.heap.size, 0, none⟩) (cutK (n - 1) s.data.toList).length c) ∧ (∀ j x, (cutK (n - 1) s.data.toList)[j]? = some x → w'.cell? ⟨w.heap.size, j, none⟩ = some (.string (B x))) ∧ w.heap.size < w'.heap.size ∧ Below w.heap.size w w' := by
  obtain ⟨m, hm⟩ := hm
  have h := Tryd.strings_SplitN s ⟨#[44]⟩ n m w (by omega) hm (by decide) hn (by omega)
  have hc := cut_min n s.data.toList hn
  rw [len_data] at hc
  refine h.mono ?_
  rintro e w' ⟨rfl, rfl⟩
  rw [split_len, hc]
  refine ⟨_, rfl, fun j x hx => ?_, by simp, (Below.refl _ _).alloc (Nat.le_refl _) _⟩
  rw [cell_of_row _ w.heap.size j _ 9 (0, 0) (heap_alloc_new w _)]
  unfold Lib.cellsOf
  rw [split_vs, hc]
  have hj := (List.getElem?_eq_some_iff.1 hx).1
  simp only [List.getElem?_toArray]
  rw [List.getElem?_append_left (by simpa using hj), List.getElem?_map, hx]
  rfl
section
variable {ops : Array Oper} {rest : List Oper} {o : Oper} {a : Act} {Q : Exit → Act → World → Prop}
theorem own3_snoc {w : World} {base : Nat} {T : TypeId} {v : Value} {L : List Pc} {x : Pc} (h : w.ownsRow base T 3 v (L.length + 1) (L.flatMap pcV ++ pcV x)) : w.ownsRow base T 3 v (L ++ [x]).length ((L ++ [x]).flatMap pcV) := by
  rw [List.flatMap_append, List.length_append]
  simpa using h
theorem app_pc (hgd : o.guard = none) (s x : Operand) (ho : o.op = .call { callee := .builtin .append, args := #[s, x], argTypes := #[23, 23] }) (base : Nat) (v : Value) (L : List Pc) (hs : a.eval s = v) (W : World) (y : Pc)
    (hown : W.ownsRow base 54 3 v L.length (L.flatMap pcV)) (hbase : base ≤ W.heap.size) (hlen : L.length ≤ 16777216) (hx : a.eval x = .slice (some ⟨W.heap.size, 0, none⟩) 1 1) (q1 q2 q3 : Value) (hq : pcV y = [q1, q2, q3])
    (h : ∀ v' w', Hid (w'.ownsRow base 54 3 v' (L ++ [y]).length ((L ++ [y]).flatMap pcV)) → Below base W w' → wpList Tryd.prog ops Q rest (a.put o.dst v') w') :
    wpList Tryd.prog ops Q (o :: rest) a (W.alloc (.cells #[q1, q2, q3] 54)) := by
  obtain ⟨i0, hi, iz0, iz1, iz2⟩ := info_parts piece_info
  refine wpList_append_own _ hgd s x 23 ho base 54 i0 _ 3 40 Tryd.underlying23 hi iz0 iz1 iz2 rfl (by decide) v L.length _ hs (hown.alloc _) ⟨W.heap.size, 0, none⟩ 1 1 [q1, q2, q3] hx rfl (three_new W _ _ _ _) ?_ (by unfold maxLen; omega) (by omega) (by simp; omega) ?_
  · rw [← hq]; exact fun u hu => pcV_one [y] u (by simpa using hu)
  · intro v6 w6 hown6 hg6 _
    rw [← hq] at hown6
    exact h v6 w6 (Lib.hid (own3_snoc hown6)) (below_grownOwn ((Below.refl _ W).alloc hbase _) (hown.alloc _) hg6 (by simp; omega) (Nat.le_refl _))
end
/-- How far the loop has come. -/
def EvRel (head : List UInt8) (fs ps : List (List UInt8)) (base : Nat) (w1 : World) (v i : Value) (wr : World) : Prop := ∃ (k : Nat) (acc : List Pc), k ≤ fs.length ∧ i = .int .i64 k ∧ acc.length = 2 * k ∧
  evsL fs ps = (evsL (fs.drop k) (ps.drop k)).map (acc ++ ·) ∧ wr.ownsRow base 54 3 v (mk head :: acc.drop 1).length ((mk head :: acc.drop 1).flatMap pcV) ∧ Below base w1 wr ∧ base ≤ wr.heap.size
theorem ev_step {fs ps : List (List UInt8)} {k : Nat} {acc : List Pc} {f p : List UInt8} (hf : fs[k]? = some f) (hp : ps[k]? = some p) (h : evsL fs ps = (evsL (fs.drop k) (ps.drop k)).map (acc ++ ·)) :
    (evP f p = none → evsL fs ps = none) ∧ ∀ x, evP f p = some x → evsL fs ps = (evsL (fs.drop (k + 1)) (ps.drop (k + 1))).map ((acc ++ [mk [44], x]) ++ ·) := by
  obtain ⟨hk, rfl⟩ := List.getElem?_eq_some_iff.1 hf
  obtain ⟨hk2, rfl⟩ := List.getElem?_eq_some_iff.1 hp
  rw [List.drop_eq_getElem_cons hk, List.drop_eq_getElem_cons hk2, evsL] at h
  refine ⟨fun e => by rw [h, e]; rfl, fun x e => ?_⟩
  rw [h, e]
  simp only
  cases evsL (fs.drop (k + 1)) (ps.drop (k + 1)) with
  | none => rfl
  | some r => simp
theorem ev_end {head v : List UInt8} {fs : List (List UInt8)} {acc : List Pc} (h0 : fs ≠ []) (hl : (cutK (fs.length - 1) v).length = fs.length) (h : evsL fs (cutK (fs.length - 1) v) = (evsL (fs.drop fs.length) ((cutK (fs.length - 1) v).drop fs.length)).map (acc ++ ·)) : evL head v fs = some (mk head :: acc.drop 1) := by
  have e0 : ∀ ps : List (List UInt8), evsL [] ps = some [] := fun ps => by unfold evsL; rfl
  rw [List.drop_length, e0] at h
  unfold evL
  rw [if_neg h0, if_neg (by omega), h]
  simp
theorem strEq_yes {f l : List UInt8} (h : f = l) : ((B f).toList == l) = true := by rw [ByteArray.toList_eq, B_data, h]; simp
theorem strEq_no {f l : List UInt8} (h : f ≠ l) : ((B f).toList == l) = false := by rw [ByteArray.toList_eq, B_data]; simpa using h
theorem strEq_no2 {f l : List UInt8} (h : f ≠ l) : ¬ (B f).toList = l := by rw [ByteArray.toList_eq, B_data]; exact h
theorem strEq_yes2 {f l : List UInt8} (h : f = l) : (B f).toList = l := by rw [ByteArray.toList_eq, B_data, h]
theorem Event_any (C : Nat) (st : Ss) (head value : ByteArray) (hh : head.size ≤ 100000) (hs : value.size ≤ 100000) (w : World) (h : StS C st w) :
    Calls Tryd.prog 31 #[.pointer (some ⟨C, 0, none⟩), .string head, .string value] w (RPost (evL head.data.toList value.data.toList st.2) w) := by
  obtain ⟨told, v, h1, h2, h3, h4, h5⟩ := h
  have hl0 := len_data value
  have c1 : w.cell? ⟨C, 1, none⟩ = some (.bool told) := by rw [cell_of_row _ C 1 _ _ (0, 0) h1]; rfl
  have c2 : w.cell? ⟨C, 2, none⟩ = some v := by rw [cell_of_row _ C 2 _ _ (0, 0) h1]; rfl
  have hClt := heap_lt h1
  generalize hP : RPost (evL head.data.toList value.data.toList st.2) w = P
  have HN : Hid (evL head.data.toList value.data.toList st.2 = none → ∀ w', Below w.heap.size w w' → P (.returned (.tuple #[.slice none 0 0, .bool false])) w') := Lib.hid fun h w' hb => by rw [← hP, h]; exact ⟨_, rfl, .inl ⟨rfl, rfl⟩, hb⟩
  have HY : Hid (∀ ps, evL head.data.toList value.data.toList st.2 = some ps → ∀ v w', Rows3 pcV w' v ps → Below w.heap.size w w' → P (.returned (.tuple #[v, .bool true])) w') := Lib.hid fun ps h v w' hr hb => by rw [← hP, h]; exact ⟨_, rfl, hr, hb⟩
  clear hP
  rcases h3 with ⟨e1, rfl, rfl⟩ | ⟨e1, rfl, D, rfl, hD1, hD2⟩
  · have Hn := Lib.hid (show evL head.data.toList value.data.toList st.2 = none by rw [e1]; rfl)
    clear e1 h1 h2 h5
    go_enter Tryd.func31, Tryd.ntmps31
    go_wp2_with fail
    exact HN.out Hn.out _ (Below.refl _ _)
  · have hpos : 1 ≤ st.2.length := by
      generalize st.2 = l at e1
      cases l with | nil => exact absurd rfl e1 | cons _ _ => simp
    have hsp := SplitN_any value st.2.length hs hpos h2 w h5
    have hDlt := heap_lt hD2
    have cD : ∀ k f, st.2[k]? = some f → w.cell? ⟨D, k, none⟩ = some (.string (B f)) := fun k f hf => by
      rw [cell_of_row _ D k _ _ (0, 0) hD2]
      simp only [List.getElem?_toArray]
      rw [List.getElem?_map, hf]; rfl
    have E1 := Lib.hid e1
    clear h1 h5 hD2 e1
    generalize st.2 = fs at *
    have hle := (cutK_le (fs.length - 1) value.data.toList).1
    by_cases hlen : (cutK (fs.length - 1) value.data.toList).length = fs.length
    · have hlt : ¬ ((cutK (fs.length - 1) value.data.toList).length : Int) < fs.length := by omega
      have Hlen := Lib.hid hlen
      have hln := Lib.hid (cutK_le (fs.length - 1) value.data.toList).2
      have Hend := Lib.hid (fun acc => ev_end (head := head.data.toList) (v := value.data.toList) (acc := acc) E1.out hlen)
      have hml := Lib.hid (cutK_mem (fs.length - 1) value.data.toList)
      have Hnone := Lib.hid (show evsL fs (cutK (fs.length - 1) value.data.toList) = none → evL head.data.toList value.data.toList fs = none from fun h => by unfold evL; rw [if_neg E1.out, if_neg (by omega), h])
      generalize cutK (fs.length - 1) value.data.toList = ps at *
      go_enter Tryd.func31, Tryd.ntmps31
      go_wp2_with (first
        | (go_at_call 43; refine hsp.mono ?_; rintro e w1 ⟨cp, rfl, hcl, hz1, hb1⟩; have Hcl := Lib.hid hcl; have d2 := (hb1.cell (p := ⟨C, 2, none⟩) hClt).trans c2; have HB1 := Lib.hid hb1; clear hcl hb1 hsp)
        | (go_at_call 26; go_loud (refine (Mark_one w1.heap.size head (w1.alloc (.cells #[.string head] 9)) (newA w1 _ _) (by omega)).mono ?_); rintro e w2 ⟨rfl, hb2⟩; have HB2 := Lib.hid (below_a1 hb2); have hz2 := sz_a1 hb2; clear hb2 d2))
      have hown := World.ownsRow_lit (base := w1.heap.size) (e := 54) (size := 3) w2 #[.bool true, .string (B nMark), .string head] 1 (by omega) (by unfold maxLen; omega) rfl
      have hpv : pcV (mk head.data.toList) = [.bool true, .string (B nMark), .string head] := by unfold pcV mk; rw [← B_of]
      have HO : Hid ((w2.alloc (.cells #[.bool true, .string (B nMark), .string head] 54)).ownsRow w1.heap.size 54 3 (.slice (some ⟨w2.heap.size, 0, none⟩) 1 1) (mk head.data.toList :: ([] : List Pc).drop 1).length ((mk head.data.toList :: ([] : List Pc).drop 1).flatMap pcV)) := Lib.hid (by simp only [List.drop_nil, List.flatMap_cons, List.flatMap_nil, List.append_nil, hpv]; exact hown)
      have hB2 : Below w1.heap.size w1 (w2.alloc (.cells #[.bool true, .string (B nMark), .string head] 54)) := HB2.out.alloc (by omega) _
      clear hown hpv hlt hlen
      go_loopw [9, 39] (fun v i wr => EvRel head.data.toList fs ps w1.heap.size w1 v i wr) (fun _ i _ => fs.length - (intOf i).toNat)
      case atStart => exact ⟨0, [], by omega, rfl, rfl, by simp, HO.out, hB2, by simp; omega⟩
      case round =>
        obtain ⟨k, acc, hk, rfl, hacc, heq, hown, hb, hzr⟩ := hrel
        by_cases hlt : k < fs.length
        · have hpl : k < ps.length := by rw [Hlen.out]; exact hlt
          obtain ⟨f, hf⟩ : ∃ f, fs[k]? = some f := ⟨_, List.getElem?_eq_getElem hlt⟩
          obtain ⟨q, hq⟩ : ∃ q, ps[k]? = some q := ⟨_, List.getElem?_eq_getElem hpl⟩
          have hbig : fs.length ≤ 100001 := by have := hln.out; have := Hlen.out; omega
          have cf := cD k f hf
          have hcells : ∀ W, Below w1.heap.size w1 W → W.cell? ⟨C, 2, none⟩ = some (.slice (some ⟨D, 0, none⟩) fs.length fs.length) ∧ W.cell? ⟨D, k, none⟩ = some (.string (B f)) := fun W hW =>
            ⟨(hW.cell (p := ⟨C, 2, none⟩) (by show C < _; omega)).trans ((HB1.out.cell (p := ⟨C, 2, none⟩) hClt).trans c2), (hW.cell (p := ⟨D, k, none⟩) (by show D < _; omega)).trans ((HB1.out.cell (p := ⟨D, k, none⟩) hDlt).trans cf)⟩
          have ce := (hb.cell (p := ⟨w.heap.size, k, none⟩) (by show w.heap.size < _; omega)).trans (Hcl.out k q hq)
          obtain ⟨hno, hyes⟩ := ev_step hf hq heq
          have hql : q.length ≤ 100000 := by have := hml.out q (List.mem_of_getElem? hq); omega
          have HOr := Lib.hid hown
          have HBr := Lib.hid hb
          have HC := Lib.hid hcells
          clear heq hf hq cf hown hb hcells
          by_cases k0 : k = 0
          · subst k0
            have e00 : ¬ (0 : Int) < ((0 : Nat) : Int) := by omega
            obtain rfl : acc = [] := List.eq_nil_of_length_eq_zero (by omega)
            obtain ⟨k6a, k6b⟩ := HC.out wr HBr.out
            by_cases hs1 : f = kStart
            · have t1 := strEq_yes hs1
              have t1b := strEq_yes2 hs1
              unfold kStart at t1 t1b
              have hlk := fun W => Like_any (B q) ⟨#[48, 58, 48, 48, 58, 48, 48, 46, 48, 48]⟩ (by rw [B_size]; omega) W
              rw [B_data] at hlk
              have hfe : f = kStart ∨ f = kEnd := .inl hs1
              clear hs1
              cases hlv : likeB q momS with
              | false =>
                have hn := Lib.hid (hno (by unfold evP; rw [if_pos hfe, hlv]; rfl))
                rw [show likeB q (⟨#[48, 58, 48, 48, 58, 48, 48, 46, 48, 48]⟩ : ByteArray).data.toList = false from hlv] at hlk
                clear hno hyes hlv hfe
                go_wp2_with (first
                  | (go_at_call 37; refine (hlk _).mono ?_; rintro e x7 ⟨rfl, hb7⟩; have HBx7 := Lib.hid (HBr.out.trans (hb7.mono (by omega)))))
                refine HN.out (Hnone.out hn.out) _ (HB1.out.trans (HBx7.out.mono (by omega)))
              | true =>
                have hy := Lib.hid (hyes (mk q) (by unfold evP; rw [if_pos hfe, hlv]; rfl))
                rw [show likeB q (⟨#[48, 58, 48, 48, 58, 48, 48, 46, 48, 48]⟩ : ByteArray).data.toList = true from hlv] at hlk
                clear hno hyes hlv hfe
                go_wp2_with (first
                  | (go_at_call 37; refine (hlk _).mono ?_; rintro e x7 ⟨rfl, hb7⟩; have HBx7 := Lib.hid (HBr.out.trans (hb7.mono (by omega))); have HOx7 := Lib.hid (own_below HOr.out hb7); have hz7 := hb7.size; clear hb7)
                  | (go_at_call 26; refine (Mark_one x7.heap.size (B q) (x7.alloc (.cells #[.string (B q)] 9)) (newA x7 _ _) (by rw [B_size]; omega)).mono ?_; rintro e x8 ⟨rfl, hbx8⟩; have hzx8 := sz_a1 hbx8; have HOx8 := Lib.hid (own_below (HOx7.out.alloc _) hbx8); have HBx8 := Lib.hid (HBx7.out.trans ((below_a1 hbx8).mono (by omega))); clear hbx8)
                  | (at_builtin; refine app_pc rfl _ _ rfl w1.heap.size u9 (mk head.data.toList :: ([] : List Pc).drop 1) rfl x8 (mk q) HOx8.out (by omega) (by first | (simp; done) | (simp at hacc ⊢; omega)) rfl _ _ _ rfl ?_; intro vx9 x9 HOx9 hbx9; have HBx9 := Lib.hid (HBx8.out.trans hbx9); have hzx9 := hbx9.size; clear HOx8 hbx9))
                go_roundw
                case rel =>
                  refine ⟨0 + 1, [] ++ [mk [44], mk q], by omega, by simp, by simp at hacc ⊢, hy.out, ?_, HBx9.out, by omega⟩
                  have := HOx9.out
                  simpa using this
                case measure => simp [intOf]; omega
            · have t1 := strEq_no hs1
              have t1b := strEq_no2 hs1
              by_cases hs2 : f = kEnd
              · have t2 := strEq_yes hs2
                have t2b := strEq_yes2 hs2
                unfold kStart at t1 t1b
                unfold kEnd at t2 t2b
                have hlk := fun W => Like_any (B q) ⟨#[48, 58, 48, 48, 58, 48, 48, 46, 48, 48]⟩ (by rw [B_size]; omega) W
                rw [B_data] at hlk
                have hfe : f = kStart ∨ f = kEnd := .inr hs2
                clear hs1 hs2
                cases hlv : likeB q momS with
                | false =>
                  have hn := Lib.hid (hno (by unfold evP; rw [if_pos hfe, hlv]; rfl))
                  rw [show likeB q (⟨#[48, 58, 48, 48, 58, 48, 48, 46, 48, 48]⟩ : ByteArray).data.toList = false from hlv] at hlk
                  clear hno hyes hlv hfe
                  go_wp2_with (first
                    | (go_at_call 37; refine (hlk _).mono ?_; rintro e x7 ⟨rfl, hb7⟩; have HBx7 := Lib.hid (HBr.out.trans (hb7.mono (by omega)))))
                  refine HN.out (Hnone.out hn.out) _ (HB1.out.trans (HBx7.out.mono (by omega)))
                | true =>
                  have hy := Lib.hid (hyes (mk q) (by unfold evP; rw [if_pos hfe, hlv]; rfl))
                  rw [show likeB q (⟨#[48, 58, 48, 48, 58, 48, 48, 46, 48, 48]⟩ : ByteArray).data.toList = true from hlv] at hlk
                  clear hno hyes hlv hfe
                  go_wp2_with (first
                    | (go_at_call 37; refine (hlk _).mono ?_; rintro e x7 ⟨rfl, hb7⟩; have HBx7 := Lib.hid (HBr.out.trans (hb7.mono (by omega))); have HOx7 := Lib.hid (own_below HOr.out hb7); have hz7 := hb7.size; clear hb7)
                    | (go_at_call 26; refine (Mark_one x7.heap.size (B q) (x7.alloc (.cells #[.string (B q)] 9)) (newA x7 _ _) (by rw [B_size]; omega)).mono ?_; rintro e x8 ⟨rfl, hbx8⟩; have hzx8 := sz_a1 hbx8; have HOx8 := Lib.hid (own_below (HOx7.out.alloc _) hbx8); have HBx8 := Lib.hid (HBx7.out.trans ((below_a1 hbx8).mono (by omega))); clear hbx8)
                    | (at_builtin; refine app_pc rfl _ _ rfl w1.heap.size u9 (mk head.data.toList :: ([] : List Pc).drop 1) rfl x8 (mk q) HOx8.out (by omega) (by first | (simp; done) | (simp at hacc ⊢; omega)) rfl _ _ _ rfl ?_; intro vx9 x9 HOx9 hbx9; have HBx9 := Lib.hid (HBx8.out.trans hbx9); have hzx9 := hbx9.size; clear HOx8 hbx9))
                  go_roundw
                  case rel =>
                    refine ⟨0 + 1, [] ++ [mk [44], mk q], by omega, by simp, by simp at hacc ⊢, hy.out, ?_, HBx9.out, by omega⟩
                    have := HOx9.out
                    simpa using this
                  case measure => simp [intOf]; omega
              · have t2 := strEq_no hs2
                have t2b := strEq_no2 hs2
                unfold kStart at t1 t1b
                unfold kEnd at t2 t2b
                have hy := Lib.hid (hyes (false, f, q) (by unfold evP; rw [if_neg (by rintro (h | h); exact hs1 h; exact hs2 h)]))
                clear hno hyes
                go_wp2_with (first
                  | (go_at_call 27; refine (Text_any (B f) (B q) _).mono ?_; rintro e x8 ⟨rfl, hb8⟩; have HBx8 := Lib.hid (HBr.out.trans (hb8.mono (by omega))); have HOx8 := Lib.hid (own_below HOr.out hb8); have hz8 := hb8.size; clear hb8)
                  | (at_builtin; refine app_pc rfl _ _ rfl w1.heap.size u9 (mk head.data.toList :: ([] : List Pc).drop 1) rfl x8 ((false, f, q)) HOx8.out (by omega) (by first | (simp; done) | (simp at hacc ⊢; omega)) rfl _ _ _ rfl ?_; intro vx9 x9 HOx9 hbx9; have HBx9 := Lib.hid (HBx8.out.trans hbx9); have hzx9 := hbx9.size; clear HOx8 hbx9))
                go_roundw
                case rel =>
                  refine ⟨0 + 1, [] ++ [mk [44], (false, f, q)], by omega, by simp, by simp at hacc ⊢, hy.out, ?_, HBx9.out, by omega⟩
                  have := HOx9.out
                  simpa using this
                case measure => simp [intOf]; omega
          · have e00 : (0 : Int) < (k : Int) := by omega
            obtain ⟨a0, acc, rfl⟩ := List.exists_cons_of_ne_nil (show acc ≠ [] from fun e => by rw [e] at hacc; simp at hacc; omega)
            by_cases hs1 : f = kStart
            · have t1 := strEq_yes hs1
              have t1b := strEq_yes2 hs1
              unfold kStart at t1 t1b
              have hlk := fun W => Like_any (B q) ⟨#[48, 58, 48, 48, 58, 48, 48, 46, 48, 48]⟩ (by rw [B_size]; omega) W
              rw [B_data] at hlk
              have hfe : f = kStart ∨ f = kEnd := .inl hs1
              clear hs1
              cases hlv : likeB q momS with
              | false =>
                have hn := Lib.hid (hno (by unfold evP; rw [if_pos hfe, hlv]; rfl))
                rw [show likeB q (⟨#[48, 58, 48, 48, 58, 48, 48, 46, 48, 48]⟩ : ByteArray).data.toList = false from hlv] at hlk
                clear hno hyes hlv hfe
                go_wp2_with (first
                  | (go_at_call 26; refine (Mark_one wr.heap.size ⟨#[44]⟩ (wr.alloc (.cells #[.string ⟨#[44]⟩] 9)) (newA wr _ _) (by decide)).mono ?_; rintro e x5 ⟨rfl, hbx5⟩; have hzx5 := sz_a1 hbx5; have HOx5 := Lib.hid (own_below (HOr.out.alloc _) hbx5); have HBx5 := Lib.hid (HBr.out.trans ((below_a1 hbx5).mono (by omega))); clear hbx5)
                  | (at_builtin; refine app_pc rfl _ _ rfl w1.heap.size u9 (mk head.data.toList :: (a0 :: acc).drop 1) rfl x5 (mk [44]) HOx5.out (by omega) (by first | (simp; done) | (simp at hacc ⊢; omega)) rfl _ _ _ rfl ?_; intro vx6 x6 HOx6 hbx6; have HBx6 := Lib.hid (HBx5.out.trans hbx6); have hzx6 := hbx6.size; clear HOx5 hbx6; have K6 := HC.out x6 HBx6.out; obtain ⟨k6a, k6b⟩ := K6)
                  | (go_at_call 37; refine (hlk _).mono ?_; rintro e x7 ⟨rfl, hb7⟩; have HBx7 := Lib.hid (HBx6.out.trans (hb7.mono (by omega)))))
                refine HN.out (Hnone.out hn.out) _ (HB1.out.trans (HBx7.out.mono (by omega)))
              | true =>
                have hy := Lib.hid (hyes (mk q) (by unfold evP; rw [if_pos hfe, hlv]; rfl))
                rw [show likeB q (⟨#[48, 58, 48, 48, 58, 48, 48, 46, 48, 48]⟩ : ByteArray).data.toList = true from hlv] at hlk
                clear hno hyes hlv hfe
                go_wp2_with (first
                  | (go_at_call 26; refine (Mark_one wr.heap.size ⟨#[44]⟩ (wr.alloc (.cells #[.string ⟨#[44]⟩] 9)) (newA wr _ _) (by decide)).mono ?_; rintro e x5 ⟨rfl, hbx5⟩; have hzx5 := sz_a1 hbx5; have HOx5 := Lib.hid (own_below (HOr.out.alloc _) hbx5); have HBx5 := Lib.hid (HBr.out.trans ((below_a1 hbx5).mono (by omega))); clear hbx5)
                  | (at_builtin; refine app_pc rfl _ _ rfl w1.heap.size u9 (mk head.data.toList :: (a0 :: acc).drop 1) rfl x5 (mk [44]) HOx5.out (by omega) (by first | (simp; done) | (simp at hacc ⊢; omega)) rfl _ _ _ rfl ?_; intro vx6 x6 HOx6 hbx6; have HBx6 := Lib.hid (HBx5.out.trans hbx6); have hzx6 := hbx6.size; clear HOx5 hbx6; have K6 := HC.out x6 HBx6.out; obtain ⟨k6a, k6b⟩ := K6)
                  | (go_at_call 37; refine (hlk _).mono ?_; rintro e x7 ⟨rfl, hb7⟩; have HBx7 := Lib.hid (HBx6.out.trans (hb7.mono (by omega))); have HOx7 := Lib.hid (own_below HOx6.out hb7); have hz7 := hb7.size; clear hb7)
                  | (go_at_call 26; refine (Mark_one x7.heap.size (B q) (x7.alloc (.cells #[.string (B q)] 9)) (newA x7 _ _) (by rw [B_size]; omega)).mono ?_; rintro e x8 ⟨rfl, hbx8⟩; have hzx8 := sz_a1 hbx8; have HOx8 := Lib.hid (own_below (HOx7.out.alloc _) hbx8); have HBx8 := Lib.hid (HBx7.out.trans ((below_a1 hbx8).mono (by omega))); clear hbx8)
                  | (at_builtin; refine app_pc rfl _ _ rfl w1.heap.size vx6 ((mk head.data.toList :: (a0 :: acc).drop 1) ++ [mk [44]]) rfl x8 (mk q) HOx8.out (by omega) (by first | (simp; done) | (simp at hacc ⊢; omega)) rfl _ _ _ rfl ?_; intro vx9 x9 HOx9 hbx9; have HBx9 := Lib.hid (HBx8.out.trans hbx9); have hzx9 := hbx9.size; clear HOx8 hbx9))
                go_roundw
                case rel =>
                  refine ⟨k + 1, (a0 :: acc) ++ [mk [44], mk q], by omega, by simp, by simp at hacc ⊢; omega, hy.out, ?_, HBx9.out, by omega⟩
                  have := HOx9.out
                  simpa using this
                case measure => simp [intOf]; omega
            · have t1 := strEq_no hs1
              have t1b := strEq_no2 hs1
              by_cases hs2 : f = kEnd
              · have t2 := strEq_yes hs2
                have t2b := strEq_yes2 hs2
                unfold kStart at t1 t1b
                unfold kEnd at t2 t2b
                have hlk := fun W => Like_any (B q) ⟨#[48, 58, 48, 48, 58, 48, 48, 46, 48, 48]⟩ (by rw [B_size]; omega) W
                rw [B_data] at hlk
                have hfe : f = kStart ∨ f = kEnd := .inr hs2
                clear hs1 hs2
                cases hlv : likeB q momS with
                | false =>
                  have hn := Lib.hid (hno (by unfold evP; rw [if_pos hfe, hlv]; rfl))
                  rw [show likeB q (⟨#[48, 58, 48, 48, 58, 48, 48, 46, 48, 48]⟩ : ByteArray).data.toList = false from hlv] at hlk
                  clear hno hyes hlv hfe
                  go_wp2_with (first
                    | (go_at_call 26; refine (Mark_one wr.heap.size ⟨#[44]⟩ (wr.alloc (.cells #[.string ⟨#[44]⟩] 9)) (newA wr _ _) (by decide)).mono ?_; rintro e x5 ⟨rfl, hbx5⟩; have hzx5 := sz_a1 hbx5; have HOx5 := Lib.hid (own_below (HOr.out.alloc _) hbx5); have HBx5 := Lib.hid (HBr.out.trans ((below_a1 hbx5).mono (by omega))); clear hbx5)
                    | (at_builtin; refine app_pc rfl _ _ rfl w1.heap.size u9 (mk head.data.toList :: (a0 :: acc).drop 1) rfl x5 (mk [44]) HOx5.out (by omega) (by first | (simp; done) | (simp at hacc ⊢; omega)) rfl _ _ _ rfl ?_; intro vx6 x6 HOx6 hbx6; have HBx6 := Lib.hid (HBx5.out.trans hbx6); have hzx6 := hbx6.size; clear HOx5 hbx6; have K6 := HC.out x6 HBx6.out; obtain ⟨k6a, k6b⟩ := K6)
                    | (go_at_call 37; refine (hlk _).mono ?_; rintro e x7 ⟨rfl, hb7⟩; have HBx7 := Lib.hid (HBx6.out.trans (hb7.mono (by omega)))))
                  refine HN.out (Hnone.out hn.out) _ (HB1.out.trans (HBx7.out.mono (by omega)))
                | true =>
                  have hy := Lib.hid (hyes (mk q) (by unfold evP; rw [if_pos hfe, hlv]; rfl))
                  rw [show likeB q (⟨#[48, 58, 48, 48, 58, 48, 48, 46, 48, 48]⟩ : ByteArray).data.toList = true from hlv] at hlk
                  clear hno hyes hlv hfe
                  go_wp2_with (first
                    | (go_at_call 26; refine (Mark_one wr.heap.size ⟨#[44]⟩ (wr.alloc (.cells #[.string ⟨#[44]⟩] 9)) (newA wr _ _) (by decide)).mono ?_; rintro e x5 ⟨rfl, hbx5⟩; have hzx5 := sz_a1 hbx5; have HOx5 := Lib.hid (own_below (HOr.out.alloc _) hbx5); have HBx5 := Lib.hid (HBr.out.trans ((below_a1 hbx5).mono (by omega))); clear hbx5)
                    | (at_builtin; refine app_pc rfl _ _ rfl w1.heap.size u9 (mk head.data.toList :: (a0 :: acc).drop 1) rfl x5 (mk [44]) HOx5.out (by omega) (by first | (simp; done) | (simp at hacc ⊢; omega)) rfl _ _ _ rfl ?_; intro vx6 x6 HOx6 hbx6; have HBx6 := Lib.hid (HBx5.out.trans hbx6); have hzx6 := hbx6.size; clear HOx5 hbx6; have K6 := HC.out x6 HBx6.out; obtain ⟨k6a, k6b⟩ := K6)
                    | (go_at_call 37; refine (hlk _).mono ?_; rintro e x7 ⟨rfl, hb7⟩; have HBx7 := Lib.hid (HBx6.out.trans (hb7.mono (by omega))); have HOx7 := Lib.hid (own_below HOx6.out hb7); have hz7 := hb7.size; clear hb7)
                    | (go_at_call 26; refine (Mark_one x7.heap.size (B q) (x7.alloc (.cells #[.string (B q)] 9)) (newA x7 _ _) (by rw [B_size]; omega)).mono ?_; rintro e x8 ⟨rfl, hbx8⟩; have hzx8 := sz_a1 hbx8; have HOx8 := Lib.hid (own_below (HOx7.out.alloc _) hbx8); have HBx8 := Lib.hid (HBx7.out.trans ((below_a1 hbx8).mono (by omega))); clear hbx8)
                    | (at_builtin; refine app_pc rfl _ _ rfl w1.heap.size vx6 ((mk head.data.toList :: (a0 :: acc).drop 1) ++ [mk [44]]) rfl x8 (mk q) HOx8.out (by omega) (by first | (simp; done) | (simp at hacc ⊢; omega)) rfl _ _ _ rfl ?_; intro vx9 x9 HOx9 hbx9; have HBx9 := Lib.hid (HBx8.out.trans hbx9); have hzx9 := hbx9.size; clear HOx8 hbx9))
                  go_roundw
                  case rel =>
                    refine ⟨k + 1, (a0 :: acc) ++ [mk [44], mk q], by omega, by simp, by simp at hacc ⊢; omega, hy.out, ?_, HBx9.out, by omega⟩
                    have := HOx9.out
                    simpa using this
                  case measure => simp [intOf]; omega
              · have t2 := strEq_no hs2
                have t2b := strEq_no2 hs2
                unfold kStart at t1 t1b
                unfold kEnd at t2 t2b
                have hy := Lib.hid (hyes (false, f, q) (by unfold evP; rw [if_neg (by rintro (h | h); exact hs1 h; exact hs2 h)]))
                clear hno hyes
                go_wp2_with (first
                  | (go_at_call 26; refine (Mark_one wr.heap.size ⟨#[44]⟩ (wr.alloc (.cells #[.string ⟨#[44]⟩] 9)) (newA wr _ _) (by decide)).mono ?_; rintro e x5 ⟨rfl, hbx5⟩; have hzx5 := sz_a1 hbx5; have HOx5 := Lib.hid (own_below (HOr.out.alloc _) hbx5); have HBx5 := Lib.hid (HBr.out.trans ((below_a1 hbx5).mono (by omega))); clear hbx5)
                  | (at_builtin; refine app_pc rfl _ _ rfl w1.heap.size u9 (mk head.data.toList :: (a0 :: acc).drop 1) rfl x5 (mk [44]) HOx5.out (by omega) (by first | (simp; done) | (simp at hacc ⊢; omega)) rfl _ _ _ rfl ?_; intro vx6 x6 HOx6 hbx6; have HBx6 := Lib.hid (HBx5.out.trans hbx6); have hzx6 := hbx6.size; clear HOx5 hbx6; have K6 := HC.out x6 HBx6.out; obtain ⟨k6a, k6b⟩ := K6)
                  | (go_at_call 27; refine (Text_any (B f) (B q) _).mono ?_; rintro e x8 ⟨rfl, hb8⟩; have HBx8 := Lib.hid (HBx6.out.trans (hb8.mono (by omega))); have HOx8 := Lib.hid (own_below HOx6.out hb8); have hz8 := hb8.size; clear hb8)
                  | (at_builtin; refine app_pc rfl _ _ rfl w1.heap.size vx6 ((mk head.data.toList :: (a0 :: acc).drop 1) ++ [mk [44]]) rfl x8 ((false, f, q)) HOx8.out (by omega) (by first | (simp; done) | (simp at hacc ⊢; omega)) rfl _ _ _ rfl ?_; intro vx9 x9 HOx9 hbx9; have HBx9 := Lib.hid (HBx8.out.trans hbx9); have hzx9 := hbx9.size; clear HOx8 hbx9))
                go_roundw
                case rel =>
                  refine ⟨k + 1, (a0 :: acc) ++ [mk [44], (false, f, q)], by omega, by simp, by simp at hacc ⊢; omega, hy.out, ?_, HBx9.out, by omega⟩
                  have := HOx9.out
                  simpa using this
                case measure => simp [intOf]; omega
        · obtain rfl : k = fs.length := by omega
          have he := Hend.out _ heq
          have HOr := Lib.hid hown
          clear heq hown
          go_wp2_with fail
          exact HY.out _ he _ _ (Rows3.of_own rfl HOr.out (fun e => by simp at e)) (HB1.out.trans (hb.mono (by omega)))
    · have hlt : ((cutK (fs.length - 1) value.data.toList).length : Int) < fs.length := by omega
      have Hn := Lib.hid (show evL head.data.toList value.data.toList fs = none by unfold evL; rw [if_neg E1.out, if_pos (by omega)])
      generalize cutK (fs.length - 1) value.data.toList = ps at *
      go_enter Tryd.func31, Tryd.ntmps31
      go_wp2_with (go_at_call 43; refine hsp.mono ?_; rintro e w1 ⟨cp, rfl, hcl, hz1, hb1⟩; have d2 := (hb1.cell (p := ⟨C, 2, none⟩) hClt).trans c2; clear hcl)
      exact HN.out Hn.out _ hb1
end Go.Proofs.YtlcgfgbdehdndaaDoor
