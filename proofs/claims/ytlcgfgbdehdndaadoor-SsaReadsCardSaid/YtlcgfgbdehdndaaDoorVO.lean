/- Contract of the document's event (chapter 25); condition: at most 100,000 bytes. -/
import Derived.Test.YtlcgfgbdehdndaaDoorVN
set_option maxRecDepth 100000
set_option maxHeartbeats 4000000
namespace Go.Proofs.YtlcgfgbdehdndaaDoor
open Go Go.RowKit

def RevRel (head : List UInt8) (fs ps : List (List UInt8)) (base : Nat) (w1 : World) (v i : Value) (wr : World) : Prop := ∃ (k : Nat) (acc : List Pc), k ≤ fs.length ∧ i = .int .i64 k ∧ acc.length = 2 * k ∧
  evsL fs ps = (evsL (fs.drop k) (ps.drop k)).map (acc ++ ·) ∧ wr.ownsRow base 55 3 v (mk head :: acc.drop 1).length ((mk head :: acc.drop 1).flatMap pcV) ∧ Below base w1 wr ∧ base ≤ wr.heap.size
theorem reads_str {w : World} {b0 : Nat} {A : Option Addr} {L : List (List UInt8)} (h : Reads w b0 1 A L.length (L.map vS)) {k : Nat} {x : List UInt8} (hx : L[k]? = some x) : ∃ ad, A = some ad ∧ ad.block < b0 ∧ w.cell? (ad.add k) = some (.string (B x)) := by
  have hk := (List.getElem?_eq_some_iff.1 hx).1
  obtain ⟨ad, u, h1, h2, h3, h4⟩ := h.at_ hk
  rw [List.getElem?_map, hx] at h3
  injection h3 with h3
  subst h3
  exact ⟨ad, h1, h2, h4⟩
theorem REvent_any (s : ByteArray) (n : Nat) (A : Option Addr) (c : Nat) (fs : List (List UInt8)) (hs : s.size ≤ 100000) (hn : n ≤ s.size) (hfs : fs.length ≤ 200000) (w : World) (hr : Reads w w.heap.size 1 A fs.length (fs.map vS)) :
    Calls Tryd.prog 20 #[.string s, .int .i64 n, .slice A fs.length c] w (RPost (evL (s.data.toList.take n) (s.data.toList.drop n) fs) w) := by
  have hl0 := len_data s
  generalize hP : RPost (evL (s.data.toList.take n) (s.data.toList.drop n) fs) w = P
  have HN : Hid (evL (s.data.toList.take n) (s.data.toList.drop n) fs = none → ∀ w', Below w.heap.size w w' → P (.returned (.tuple #[.slice none 0 0, .bool false])) w') := Lib.hid fun h w' hb => by rw [← hP, h]; exact ⟨_, rfl, .inl ⟨rfl, rfl⟩, hb⟩
  have HY : Hid (∀ ps, evL (s.data.toList.take n) (s.data.toList.drop n) fs = some ps → ∀ v w', Rows3 pcV w' v ps → Below w.heap.size w w' → P (.returned (.tuple #[v, .bool true])) w') := Lib.hid fun ps h v w' hr hb => by rw [← hP, h]; exact ⟨_, rfl, hr, hb⟩
  clear hP
  have hct := RCut_any (s.extract n s.size) fs.length (by simp; omega) (by omega) w
  rw [extr] at hct
  unfold CtPost at hct
  have x0 : (s.extract 0 n).data.toList = s.data.toList.take n := by rw [ext_data, List.drop_zero]
  have hle := (cutK_le (fs.length - 1) (s.data.toList.drop n)).1
  have hle2 := (cutK_le (fs.length - 1) (s.data.toList.drop n)).2
  rw [List.length_drop, hl0] at hle2
  by_cases h0 : fs.length = 0
  · have d0 : ((fs.length : Int) == 0) = true := by rw [h0]; rfl
    have Hn := Lib.hid (show evL (s.data.toList.take n) (s.data.toList.drop n) fs = none by rw [List.eq_nil_of_length_eq_zero h0]; rfl)
    generalize cutK (fs.length - 1) (s.data.toList.drop n) = ps at *
    clear h0 hle hle2 x0
    go_enter Tryd.func20, Tryd.ntmps20
    go_wp2_with (go_at_call 18; refine hct.mono ?_; rintro e w1 ⟨A1, c1, rfl, hc1, hr1, hb1⟩; clear hr1)
    exact HN.out Hn.out _ hb1
  have d0 : ((fs.length : Int) == 0) = false := by rw [beq_eq_false_iff_ne]; omega
  have hne : fs ≠ [] := fun e => by rw [e] at h0; simp at h0
  by_cases hlen : (cutK (fs.length - 1) (s.data.toList.drop n)).length = fs.length
  · have d1 : (((cutK (fs.length - 1) (s.data.toList.drop n)).length : Int) != (fs.length : Int)) = false := by rw [hlen]; simp
    have Hend := Lib.hid (fun acc => ev_end (head := s.data.toList.take n) (v := s.data.toList.drop n) (acc := acc) hne hlen)
    have hml := Lib.hid (cutK_mem (fs.length - 1) (s.data.toList.drop n))
    have Hnone := Lib.hid (show evsL fs (cutK (fs.length - 1) (s.data.toList.drop n)) = none → evL (s.data.toList.take n) (s.data.toList.drop n) fs = none from fun h => by unfold evL; rw [if_neg hne, if_neg (by omega), h])
    have hdl : (s.data.toList.drop n).length ≤ 100000 := by rw [List.length_drop]; omega
    have hbig : fs.length ≤ 100001 := by omega
    have HR := Lib.hid hr
    have Hlen := Lib.hid hlen
    have Hx0 := Lib.hid x0
    generalize cutK (fs.length - 1) (s.data.toList.drop n) = ps at *
    clear hlen hle hle2 hr h0 x0 hne
    go_enter Tryd.func20, Tryd.ntmps20
    go_wp2_with (first
      | (go_at_call 18; refine hct.mono ?_; rintro e w1 ⟨A1, c1, rfl, hc1, hr1, hb1⟩; have HR1 := Lib.hid hr1; have HB1 := Lib.hid hb1; have hz1 := hb1.size; clear hr1 hb1 hct)
      | (go_at_call 16; refine (Put_any w1.heap.size (.slice none 0 0) [] (s.extract 0 n) w1 ⟨rfl, .inl ⟨rfl, rfl⟩⟩ (Nat.le_refl _) (by simp)).mono ?_; rintro e w2 ⟨v2, rfl, ho2, hb2⟩; have HO2 := Lib.hid ho2; have HB2 := Lib.hid (hb2 _ (Nat.le_refl _)); clear ho2 hb2))
    have hst : RevRel (s.data.toList.take n) fs ps w1.heap.size w1 v2 (.int .i64 0) w2 := ⟨0, [], by omega, rfl, rfl, by simp, by
      have := HO2.out
      rw [Hx0.out] at this
      simpa using this, HB2.out, HB2.out.size⟩
    have Hst := Lib.hid hst
    clear hst
    go_loopw [9, 10] (fun v i wr => RevRel (s.data.toList.take n) fs ps w1.heap.size w1 v i wr) (fun _ i _ => fs.length - (intOf i).toNat)
    case atStart => exact Hst.out
    case round =>
      obtain ⟨k, acc, hk, rfl, hacc, heq, hown, hb, hzr⟩ := hrel
      by_cases hlt : k < fs.length
      · have hpl : k < ps.length := by rw [Hlen.out]; exact hlt
        have hpli : (k : Int) < ps.length := by omega
        obtain ⟨f, hf⟩ : ∃ f, fs[k]? = some f := ⟨_, List.getElem?_eq_getElem hlt⟩
        obtain ⟨q, hq⟩ : ∃ q, ps[k]? = some q := ⟨_, List.getElem?_eq_getElem hpl⟩
        obtain ⟨ad, rfl, had, cf⟩ := reads_str HR.out hf
        obtain ⟨ad1, rfl, had1, cq⟩ := reads_str HR1.out hq
        have hcells : ∀ W, Below w1.heap.size w1 W → W.cell? (ad.add k) = some (.string (B f)) ∧ W.cell? (ad1.add k) = some (.string (B q)) := fun W hW =>
          ⟨(hW.cell (p := ad.add k) (by rw [block_of_add]; omega)).trans ((HB1.out.cell (p := ad.add k) (by rw [block_of_add]; exact had)).trans cf), (hW.cell (p := ad1.add k) (by rw [block_of_add]; exact had1)).trans cq⟩
        obtain ⟨hno, hyes⟩ := ev_step hf hq heq
        have hql : q.length ≤ 100000 := by have := hml.out q (List.mem_of_getElem? hq); omega
        have HOr := Lib.hid hown
        have HBr := Lib.hid hb
        have HC := Lib.hid hcells
        have hsq := B_size q
        clear heq hf hq cf cq hown hb hcells
        by_cases k0 : k = 0
        · subst k0
          have e00 : ¬ (0 : Int) < ((0 : Nat) : Int) := by omega
          obtain rfl : acc = [] := List.eq_nil_of_length_eq_zero (by omega)
          have hz0 : ∀ a : Addr, a.add 0 = a := fun a => by unfold Addr.add; simp
          have HC : Hid (∀ W, Below w1.heap.size w1 W → W.cell? ad = some (.string (B f)) ∧ W.cell? ad1 = some (.string (B q))) := Lib.hid fun W hW => by have h9 := HC.out W hW; rw [hz0, hz0] at h9; exact h9
          clear hz0
          obtain ⟨k6a, k6b⟩ := HC.out wr HBr.out
          by_cases hs1 : f = kStart
          · have t1 := strEq_yes hs1
            have t1b := strEq_yes2 hs1
            unfold kStart at t1 t1b
            have hlk := fun W => RLike_any (B q) ⟨#[48, 58, 48, 48, 58, 48, 48, 46, 48, 48]⟩ (by rw [B_size]; omega) W
            rw [B_data] at hlk
            have hfe : f = kStart ∨ f = kEnd := .inl hs1
            clear hs1
            cases hlv : likeB q momS with
            | false =>
              have hn := Lib.hid (hno (by unfold evP; rw [if_pos hfe, hlv]; rfl))
              rw [show likeB q (⟨#[48, 58, 48, 48, 58, 48, 48, 46, 48, 48]⟩ : ByteArray).data.toList = false from hlv] at hlk
              clear hno hyes hlv hfe
              go_wp2_with (first
                | (go_at_call 33; refine (hlk _).mono ?_; rintro e x7 ⟨rfl, hb7⟩; have HBx7 := Lib.hid (HBr.out.trans (hb7.mono hzr)); have HOx7 := Lib.hid (own_below HOr.out hb7); have hz7 := hb7.size; obtain ⟨k7a, k7b⟩ := HC.out x7 HBx7.out; clear hb7))
              refine HN.out (Hnone.out hn.out) _ (HB1.out.trans (HBx7.out.mono (by omega)))
            | true =>
              have hy := Lib.hid (hyes (mk q) (by unfold evP; rw [if_pos hfe, hlv]; rfl))
              rw [show likeB q (⟨#[48, 58, 48, 48, 58, 48, 48, 46, 48, 48]⟩ : ByteArray).data.toList = true from hlv] at hlk
              clear hno hyes hlv hfe
              go_wp2_with (first
                | (go_at_call 33; refine (hlk _).mono ?_; rintro e x7 ⟨rfl, hb7⟩; have HBx7 := Lib.hid (HBr.out.trans (hb7.mono hzr)); have HOx7 := Lib.hid (own_below HOr.out hb7); have hz7 := hb7.size; obtain ⟨k7a, k7b⟩ := HC.out x7 HBx7.out; clear hb7)
                | (go_at_call 16; refine (Put_any w1.heap.size u9 (mk (s.data.toList.take n) :: ([] : List Pc).drop 1) (B q) x7 HOx7.out (by omega) (by simp at hacc ⊢)).mono ?_; rintro e x9 ⟨vx9, rfl, ho9, hb9⟩; have HOx9 := Lib.hid ho9; have HBx9 := Lib.hid (HBx7.out.trans (hb9 _ (Nat.le_refl _))); have hz9 := HBx9.out.size; clear ho9 hb9))
              go_roundw
              case rel =>
                refine ⟨0 + 1, [] ++ [mk [44], mk q], by omega, by simp, by simp at hacc ⊢, hy.out, ?_, HBx9.out, by omega⟩
                have := (by have := HOx9.out; rw [B_data] at this; exact this : x9.ownsRow w1.heap.size 55 3 vx9 ((mk (s.data.toList.take n) :: ([] : List Pc).drop 1).length + 1) (((mk (s.data.toList.take n) :: ([] : List Pc).drop 1) ++ [mk q]).flatMap pcV))
                simpa using this
              case measure => simp [intOf]; omega
          · have t1 := strEq_no hs1
            have t1b := strEq_no2 hs1
            by_cases hs2 : f = kEnd
            · have t2 := strEq_yes hs2
              have t2b := strEq_yes2 hs2
              unfold kStart at t1 t1b
              unfold kEnd at t2 t2b
              have hlk := fun W => RLike_any (B q) ⟨#[48, 58, 48, 48, 58, 48, 48, 46, 48, 48]⟩ (by rw [B_size]; omega) W
              rw [B_data] at hlk
              have hfe : f = kStart ∨ f = kEnd := .inr hs2
              clear hs1 hs2
              cases hlv : likeB q momS with
              | false =>
                have hn := Lib.hid (hno (by unfold evP; rw [if_pos hfe, hlv]; rfl))
                rw [show likeB q (⟨#[48, 58, 48, 48, 58, 48, 48, 46, 48, 48]⟩ : ByteArray).data.toList = false from hlv] at hlk
                clear hno hyes hlv hfe
                go_wp2_with (first
                  | (go_at_call 33; refine (hlk _).mono ?_; rintro e x7 ⟨rfl, hb7⟩; have HBx7 := Lib.hid (HBr.out.trans (hb7.mono hzr)); have HOx7 := Lib.hid (own_below HOr.out hb7); have hz7 := hb7.size; obtain ⟨k7a, k7b⟩ := HC.out x7 HBx7.out; clear hb7))
                refine HN.out (Hnone.out hn.out) _ (HB1.out.trans (HBx7.out.mono (by omega)))
              | true =>
                have hy := Lib.hid (hyes (mk q) (by unfold evP; rw [if_pos hfe, hlv]; rfl))
                rw [show likeB q (⟨#[48, 58, 48, 48, 58, 48, 48, 46, 48, 48]⟩ : ByteArray).data.toList = true from hlv] at hlk
                clear hno hyes hlv hfe
                go_wp2_with (first
                  | (go_at_call 33; refine (hlk _).mono ?_; rintro e x7 ⟨rfl, hb7⟩; have HBx7 := Lib.hid (HBr.out.trans (hb7.mono hzr)); have HOx7 := Lib.hid (own_below HOr.out hb7); have hz7 := hb7.size; obtain ⟨k7a, k7b⟩ := HC.out x7 HBx7.out; clear hb7)
                  | (go_at_call 16; refine (Put_any w1.heap.size u9 (mk (s.data.toList.take n) :: ([] : List Pc).drop 1) (B q) x7 HOx7.out (by omega) (by simp at hacc ⊢)).mono ?_; rintro e x9 ⟨vx9, rfl, ho9, hb9⟩; have HOx9 := Lib.hid ho9; have HBx9 := Lib.hid (HBx7.out.trans (hb9 _ (Nat.le_refl _))); have hz9 := HBx9.out.size; clear ho9 hb9))
                go_roundw
                case rel =>
                  refine ⟨0 + 1, [] ++ [mk [44], mk q], by omega, by simp, by simp at hacc ⊢, hy.out, ?_, HBx9.out, by omega⟩
                  have := (by have := HOx9.out; rw [B_data] at this; exact this : x9.ownsRow w1.heap.size 55 3 vx9 ((mk (s.data.toList.take n) :: ([] : List Pc).drop 1).length + 1) (((mk (s.data.toList.take n) :: ([] : List Pc).drop 1) ++ [mk q]).flatMap pcV))
                  simpa using this
                case measure => simp [intOf]; omega
            · have t2 := strEq_no hs2
              have t2b := strEq_no2 hs2
              unfold kStart at t1 t1b
              unfold kEnd at t2 t2b
              have hy := Lib.hid (hyes (false, f, q) (by unfold evP; rw [if_neg (by rintro (h | h); exact hs1 h; exact hs2 h)]))
              clear hno hyes hs1 hs2
              go_wp2_with fail
              have hS0 : Below wr.heap.size wr wr.drew := (Below.refl _ _).drew
              have HOd : Hid (wr.drew.ownsRow w1.heap.size 55 3 u9 (mk (s.data.toList.take n) :: ([] : List Pc).drop 1).length ((mk (s.data.toList.take n) :: ([] : List Pc).drop 1).flatMap pcV)) := Lib.hid (own_below HOr.out hS0)
              refine wp_region_lin (fun W => Below w1.heap.size w1 W) [(0, true), (1, true), (2, true), (3, true), (4, true), (5, true), (6, true), (7, true), (8, true), (9, false), (10, true)] (by kernel_rfl) (by kernel_rfl) (by kernel_rfl) (Nat.le_of_ble_eq_true rfl) (fun _ _ d _ _ h => by cases d <;> exact h) (HBr.out.drew) ?_
              refine' lin_pure rfl (by rfl) _ (fun W hSw => _) _
              rotate_left
              · obtain ⟨z0, z1⟩ := HC.out W hSw
                go_simp
                try with_reducible rfl
              try simp only [Act.put, List.setIfInBounds_toArray, List.set_cons_zero, List.set_cons_succ]
              refine' lin_pure rfl (by rfl) _ (fun W hSw => _) _
              rotate_left
              · obtain ⟨z0, z1⟩ := HC.out W hSw
                go_simp
                try with_reducible rfl
              try simp only [Act.put, List.setIfInBounds_toArray, List.set_cons_zero, List.set_cons_succ]
              refine' lin_pure rfl (by rfl) _ (fun W hSw => _) _
              rotate_left
              · obtain ⟨z0, z1⟩ := HC.out W hSw
                go_simp
                try with_reducible rfl
              try simp only [Act.put, List.setIfInBounds_toArray, List.set_cons_zero, List.set_cons_succ]
              refine' lin_pure rfl (by rfl) _ (fun W hSw => _) _
              rotate_left
              · obtain ⟨z0, z1⟩ := HC.out W hSw
                go_simp
                try with_reducible rfl
              try simp only [Act.put, List.setIfInBounds_toArray, List.set_cons_zero, List.set_cons_succ]
              refine' lin_pure rfl (by rfl) _ (fun W hSw => _) _
              rotate_left
              · obtain ⟨z0, z1⟩ := HC.out W hSw
                go_simp
                try with_reducible rfl
              try simp only [Act.put, List.setIfInBounds_toArray, List.set_cons_zero, List.set_cons_succ]
              refine' lin_pure rfl (by rfl) _ (fun W hSw => _) _
              rotate_left
              · obtain ⟨z0, z1⟩ := HC.out W hSw
                go_simp
                try with_reducible rfl
              try simp only [Act.put, List.setIfInBounds_toArray, List.set_cons_zero, List.set_cons_succ]
              refine' lin_pure rfl (by rfl) _ (fun W hSw => _) _
              rotate_left
              · obtain ⟨z0, z1⟩ := HC.out W hSw
                go_simp
                try with_reducible rfl
              try simp only [Act.put, List.setIfInBounds_toArray, List.set_cons_zero, List.set_cons_succ]
              refine' lin_pure rfl (by rfl) _ (fun W hSw => _) _
              rotate_left
              · obtain ⟨z0, z1⟩ := HC.out W hSw
                go_simp
                try with_reducible rfl
              try simp only [Act.put, List.setIfInBounds_toArray, List.set_cons_zero, List.set_cons_succ]
              refine' lin_pure rfl (by rfl) _ (fun W hSw => _) _
              rotate_left
              · obtain ⟨z0, z1⟩ := HC.out W hSw
                go_simp
                try with_reducible rfl
              try simp only [Act.put, List.setIfInBounds_toArray, List.set_cons_zero, List.set_cons_succ]
              refine lin_eff rfl (by rfl) (fun K hK => ?_)
              go_simp
              refine (Write_any w1.heap.size u9 (mk (s.data.toList.take n) :: ([] : List Pc).drop 1) (B f) (B q) wr.drew HOd.out (by simpa using hzr) (by simp at hacc ⊢)).mono ?_
              rintro e x9 ⟨vx9, rfl, ho9, hb9⟩
              have HBx9 := HBr.out.drew.trans (hb9 _ (Nat.le_refl _))
              have hz9 := HBx9.size
              rw [B_data, B_data] at ho9
              have HOx9 := Lib.hid ho9
              clear ho9 hb9
              go_wp2_with fail
              refine hK.out _ _ HBx9 ?_
              clear hK K
              try simp only [Act.put, List.setIfInBounds_toArray, List.set_cons_zero, List.set_cons_succ]
              refine' lin_pure rfl (by rfl) _ (fun W hSw => _) _
              rotate_left
              · obtain ⟨z0, z1⟩ := HC.out W hSw
                go_simp
                try with_reducible rfl
              try simp only [Act.put, List.setIfInBounds_toArray, List.set_cons_zero, List.set_cons_succ]
              refine lin_nil ?_
              go_wp2_with fail
              go_roundw
              case rel =>
                refine ⟨0 + 1, [] ++ [mk [44], (false, f, q)], by omega, by simp, by simp at hacc ⊢, hy.out, ?_, HBx9, by omega⟩
                have := HOx9.out
                simpa using this
              case measure => simp [intOf]; omega
        · have e00 : (0 : Int) < (k : Int) := by omega
          obtain ⟨a0, acc, rfl⟩ := List.exists_cons_of_ne_nil (show acc ≠ [] from fun e => by rw [e] at hacc; simp at hacc; omega)
          obtain ⟨k5a, k5b⟩ := HC.out wr HBr.out
          by_cases hs1 : f = kStart
          · have t1 := strEq_yes hs1
            have t1b := strEq_yes2 hs1
            unfold kStart at t1 t1b
            have hlk := fun W => RLike_any (B q) ⟨#[48, 58, 48, 48, 58, 48, 48, 46, 48, 48]⟩ (by rw [B_size]; omega) W
            rw [B_data] at hlk
            have hfe : f = kStart ∨ f = kEnd := .inl hs1
            clear hs1
            cases hlv : likeB q momS with
            | false =>
              have hn := Lib.hid (hno (by unfold evP; rw [if_pos hfe, hlv]; rfl))
              rw [show likeB q (⟨#[48, 58, 48, 48, 58, 48, 48, 46, 48, 48]⟩ : ByteArray).data.toList = false from hlv] at hlk
              clear hno hyes hlv hfe
              go_wp2_with (first
                | (go_at_call 33; refine (hlk _).mono ?_; rintro e x7 ⟨rfl, hb7⟩; have HBx7 := Lib.hid (HBx6.out.trans (hb7.mono (by omega))); have HOx7 := Lib.hid (own_below HOx6.out hb7); have hz7 := hb7.size; obtain ⟨k7a, k7b⟩ := HC.out x7 HBx7.out; clear hb7)
                | (go_at_call 16; refine (Put_any w1.heap.size u9 (mk (s.data.toList.take n) :: (a0 :: acc).drop 1) ⟨#[44]⟩ wr HOr.out hzr (by simp at hacc ⊢; omega)).mono ?_; rintro e x6 ⟨vx6, rfl, ho6, hb6⟩; have HOx6 : Hid (x6.ownsRow w1.heap.size 55 3 vx6 ((mk (s.data.toList.take n) :: (a0 :: acc).drop 1) ++ [mk [44]]).length (((mk (s.data.toList.take n) :: (a0 :: acc).drop 1) ++ [mk [44]]).flatMap pcV) ) := Lib.hid (by rw [List.length_append]; exact ho6); have HBx6 := Lib.hid (HBr.out.trans (hb6 _ (Nat.le_refl _))); have hz6 := HBx6.out.size; obtain ⟨k6a, k6b⟩ := HC.out x6 HBx6.out; clear ho6 hb6 HOr))
              refine HN.out (Hnone.out hn.out) _ (HB1.out.trans (HBx7.out.mono (by omega)))
            | true =>
              have hy := Lib.hid (hyes (mk q) (by unfold evP; rw [if_pos hfe, hlv]; rfl))
              rw [show likeB q (⟨#[48, 58, 48, 48, 58, 48, 48, 46, 48, 48]⟩ : ByteArray).data.toList = true from hlv] at hlk
              clear hno hyes hlv hfe
              go_wp2_with (first
                | (go_at_call 33; refine (hlk _).mono ?_; rintro e x7 ⟨rfl, hb7⟩; have HBx7 := Lib.hid (HBx6.out.trans (hb7.mono (by omega))); have HOx7 := Lib.hid (own_below HOx6.out hb7); have hz7 := hb7.size; obtain ⟨k7a, k7b⟩ := HC.out x7 HBx7.out; clear hb7)
                | (go_at_call 16; refine (Put_any w1.heap.size vx6 ((mk (s.data.toList.take n) :: (a0 :: acc).drop 1) ++ [mk [44]]) (B q) x7 HOx7.out (by omega) (by simp at hacc ⊢; omega)).mono ?_; rintro e x9 ⟨vx9, rfl, ho9, hb9⟩; have HOx9 := Lib.hid ho9; have HBx9 := Lib.hid (HBx7.out.trans (hb9 _ (Nat.le_refl _))); have hz9 := HBx9.out.size; clear ho9 hb9)
                | (go_at_call 16; refine (Put_any w1.heap.size u9 (mk (s.data.toList.take n) :: (a0 :: acc).drop 1) ⟨#[44]⟩ wr HOr.out hzr (by simp at hacc ⊢; omega)).mono ?_; rintro e x6 ⟨vx6, rfl, ho6, hb6⟩; have HOx6 : Hid (x6.ownsRow w1.heap.size 55 3 vx6 ((mk (s.data.toList.take n) :: (a0 :: acc).drop 1) ++ [mk [44]]).length (((mk (s.data.toList.take n) :: (a0 :: acc).drop 1) ++ [mk [44]]).flatMap pcV) ) := Lib.hid (by rw [List.length_append]; exact ho6); have HBx6 := Lib.hid (HBr.out.trans (hb6 _ (Nat.le_refl _))); have hz6 := HBx6.out.size; obtain ⟨k6a, k6b⟩ := HC.out x6 HBx6.out; clear ho6 hb6 HOr))
              go_roundw
              case rel =>
                refine ⟨k + 1, (a0 :: acc) ++ [mk [44], mk q], by omega, by simp, by simp at hacc ⊢; omega, hy.out, ?_, HBx9.out, by omega⟩
                have := (by have := HOx9.out; rw [B_data] at this; exact this : x9.ownsRow w1.heap.size 55 3 vx9 (((mk (s.data.toList.take n) :: (a0 :: acc).drop 1) ++ [mk [44]]).length + 1) ((((mk (s.data.toList.take n) :: (a0 :: acc).drop 1) ++ [mk [44]]) ++ [mk q]).flatMap pcV))
                simpa using this
              case measure => simp [intOf]; omega
          · have t1 := strEq_no hs1
            have t1b := strEq_no2 hs1
            by_cases hs2 : f = kEnd
            · have t2 := strEq_yes hs2
              have t2b := strEq_yes2 hs2
              unfold kStart at t1 t1b
              unfold kEnd at t2 t2b
              have hlk := fun W => RLike_any (B q) ⟨#[48, 58, 48, 48, 58, 48, 48, 46, 48, 48]⟩ (by rw [B_size]; omega) W
              rw [B_data] at hlk
              have hfe : f = kStart ∨ f = kEnd := .inr hs2
              clear hs1 hs2
              cases hlv : likeB q momS with
              | false =>
                have hn := Lib.hid (hno (by unfold evP; rw [if_pos hfe, hlv]; rfl))
                rw [show likeB q (⟨#[48, 58, 48, 48, 58, 48, 48, 46, 48, 48]⟩ : ByteArray).data.toList = false from hlv] at hlk
                clear hno hyes hlv hfe
                go_wp2_with (first
                  | (go_at_call 33; refine (hlk _).mono ?_; rintro e x7 ⟨rfl, hb7⟩; have HBx7 := Lib.hid (HBx6.out.trans (hb7.mono (by omega))); have HOx7 := Lib.hid (own_below HOx6.out hb7); have hz7 := hb7.size; obtain ⟨k7a, k7b⟩ := HC.out x7 HBx7.out; clear hb7)
                  | (go_at_call 16; refine (Put_any w1.heap.size u9 (mk (s.data.toList.take n) :: (a0 :: acc).drop 1) ⟨#[44]⟩ wr HOr.out hzr (by simp at hacc ⊢; omega)).mono ?_; rintro e x6 ⟨vx6, rfl, ho6, hb6⟩; have HOx6 : Hid (x6.ownsRow w1.heap.size 55 3 vx6 ((mk (s.data.toList.take n) :: (a0 :: acc).drop 1) ++ [mk [44]]).length (((mk (s.data.toList.take n) :: (a0 :: acc).drop 1) ++ [mk [44]]).flatMap pcV) ) := Lib.hid (by rw [List.length_append]; exact ho6); have HBx6 := Lib.hid (HBr.out.trans (hb6 _ (Nat.le_refl _))); have hz6 := HBx6.out.size; obtain ⟨k6a, k6b⟩ := HC.out x6 HBx6.out; clear ho6 hb6 HOr))
                refine HN.out (Hnone.out hn.out) _ (HB1.out.trans (HBx7.out.mono (by omega)))
              | true =>
                have hy := Lib.hid (hyes (mk q) (by unfold evP; rw [if_pos hfe, hlv]; rfl))
                rw [show likeB q (⟨#[48, 58, 48, 48, 58, 48, 48, 46, 48, 48]⟩ : ByteArray).data.toList = true from hlv] at hlk
                clear hno hyes hlv hfe
                go_wp2_with (first
                  | (go_at_call 33; refine (hlk _).mono ?_; rintro e x7 ⟨rfl, hb7⟩; have HBx7 := Lib.hid (HBx6.out.trans (hb7.mono (by omega))); have HOx7 := Lib.hid (own_below HOx6.out hb7); have hz7 := hb7.size; obtain ⟨k7a, k7b⟩ := HC.out x7 HBx7.out; clear hb7)
                  | (go_at_call 16; refine (Put_any w1.heap.size vx6 ((mk (s.data.toList.take n) :: (a0 :: acc).drop 1) ++ [mk [44]]) (B q) x7 HOx7.out (by omega) (by simp at hacc ⊢; omega)).mono ?_; rintro e x9 ⟨vx9, rfl, ho9, hb9⟩; have HOx9 := Lib.hid ho9; have HBx9 := Lib.hid (HBx7.out.trans (hb9 _ (Nat.le_refl _))); have hz9 := HBx9.out.size; clear ho9 hb9)
                  | (go_at_call 16; refine (Put_any w1.heap.size u9 (mk (s.data.toList.take n) :: (a0 :: acc).drop 1) ⟨#[44]⟩ wr HOr.out hzr (by simp at hacc ⊢; omega)).mono ?_; rintro e x6 ⟨vx6, rfl, ho6, hb6⟩; have HOx6 : Hid (x6.ownsRow w1.heap.size 55 3 vx6 ((mk (s.data.toList.take n) :: (a0 :: acc).drop 1) ++ [mk [44]]).length (((mk (s.data.toList.take n) :: (a0 :: acc).drop 1) ++ [mk [44]]).flatMap pcV) ) := Lib.hid (by rw [List.length_append]; exact ho6); have HBx6 := Lib.hid (HBr.out.trans (hb6 _ (Nat.le_refl _))); have hz6 := HBx6.out.size; obtain ⟨k6a, k6b⟩ := HC.out x6 HBx6.out; clear ho6 hb6 HOr))
                go_roundw
                case rel =>
                  refine ⟨k + 1, (a0 :: acc) ++ [mk [44], mk q], by omega, by simp, by simp at hacc ⊢; omega, hy.out, ?_, HBx9.out, by omega⟩
                  have := (by have := HOx9.out; rw [B_data] at this; exact this : x9.ownsRow w1.heap.size 55 3 vx9 (((mk (s.data.toList.take n) :: (a0 :: acc).drop 1) ++ [mk [44]]).length + 1) ((((mk (s.data.toList.take n) :: (a0 :: acc).drop 1) ++ [mk [44]]) ++ [mk q]).flatMap pcV))
                  simpa using this
                case measure => simp [intOf]; omega
            · have t2 := strEq_no hs2
              have t2b := strEq_no2 hs2
              unfold kStart at t1 t1b
              unfold kEnd at t2 t2b
              have hy := Lib.hid (hyes (false, f, q) (by unfold evP; rw [if_neg (by rintro (h | h); exact hs1 h; exact hs2 h)]))
              clear hno hyes hs1 hs2
              go_wp2_with (first
                | (go_at_call 16; refine (Put_any w1.heap.size u9 (mk (s.data.toList.take n) :: (a0 :: acc).drop 1) ⟨#[44]⟩ wr HOr.out hzr (by simp at hacc ⊢; omega)).mono ?_; rintro e x6 ⟨vx6, rfl, ho6, hb6⟩; have HOx6 : Hid (x6.ownsRow w1.heap.size 55 3 vx6 ((mk (s.data.toList.take n) :: (a0 :: acc).drop 1) ++ [mk [44]]).length (((mk (s.data.toList.take n) :: (a0 :: acc).drop 1) ++ [mk [44]]).flatMap pcV) ) := Lib.hid (by rw [List.length_append]; exact ho6); have HBx6 := Lib.hid (HBr.out.trans (hb6 _ (Nat.le_refl _))); have hz6 := HBx6.out.size; obtain ⟨k6a, k6b⟩ := HC.out x6 HBx6.out; clear ho6 hb6 HOr))
              have hS0 : Below x6.heap.size x6 x6.drew := (Below.refl _ _).drew
              have HOd : Hid (x6.drew.ownsRow w1.heap.size 55 3 vx6 ((mk (s.data.toList.take n) :: (a0 :: acc).drop 1) ++ [mk [44]]).length (((mk (s.data.toList.take n) :: (a0 :: acc).drop 1) ++ [mk [44]]).flatMap pcV)) := Lib.hid (own_below HOx6.out hS0)
              refine wp_region_lin (fun W => Below w1.heap.size w1 W) [(0, true), (1, true), (2, true), (3, true), (4, true), (5, true), (6, true), (7, true), (8, true), (9, false), (10, true)] (by kernel_rfl) (by kernel_rfl) (by kernel_rfl) (Nat.le_of_ble_eq_true rfl) (fun _ _ d _ _ h => by cases d <;> exact h) (HBx6.out.drew) ?_
              refine' lin_pure rfl (by rfl) _ (fun W hSw => _) _
              rotate_left
              · obtain ⟨z0, z1⟩ := HC.out W hSw
                go_simp
                try with_reducible rfl
              try simp only [Act.put, List.setIfInBounds_toArray, List.set_cons_zero, List.set_cons_succ]
              refine' lin_pure rfl (by rfl) _ (fun W hSw => _) _
              rotate_left
              · obtain ⟨z0, z1⟩ := HC.out W hSw
                go_simp
                try with_reducible rfl
              try simp only [Act.put, List.setIfInBounds_toArray, List.set_cons_zero, List.set_cons_succ]
              refine' lin_pure rfl (by rfl) _ (fun W hSw => _) _
              rotate_left
              · obtain ⟨z0, z1⟩ := HC.out W hSw
                go_simp
                try with_reducible rfl
              try simp only [Act.put, List.setIfInBounds_toArray, List.set_cons_zero, List.set_cons_succ]
              refine' lin_pure rfl (by rfl) _ (fun W hSw => _) _
              rotate_left
              · obtain ⟨z0, z1⟩ := HC.out W hSw
                go_simp
                try with_reducible rfl
              try simp only [Act.put, List.setIfInBounds_toArray, List.set_cons_zero, List.set_cons_succ]
              refine' lin_pure rfl (by rfl) _ (fun W hSw => _) _
              rotate_left
              · obtain ⟨z0, z1⟩ := HC.out W hSw
                go_simp
                try with_reducible rfl
              try simp only [Act.put, List.setIfInBounds_toArray, List.set_cons_zero, List.set_cons_succ]
              refine' lin_pure rfl (by rfl) _ (fun W hSw => _) _
              rotate_left
              · obtain ⟨z0, z1⟩ := HC.out W hSw
                go_simp
                try with_reducible rfl
              try simp only [Act.put, List.setIfInBounds_toArray, List.set_cons_zero, List.set_cons_succ]
              refine' lin_pure rfl (by rfl) _ (fun W hSw => _) _
              rotate_left
              · obtain ⟨z0, z1⟩ := HC.out W hSw
                go_simp
                try with_reducible rfl
              try simp only [Act.put, List.setIfInBounds_toArray, List.set_cons_zero, List.set_cons_succ]
              refine' lin_pure rfl (by rfl) _ (fun W hSw => _) _
              rotate_left
              · obtain ⟨z0, z1⟩ := HC.out W hSw
                go_simp
                try with_reducible rfl
              try simp only [Act.put, List.setIfInBounds_toArray, List.set_cons_zero, List.set_cons_succ]
              refine' lin_pure rfl (by rfl) _ (fun W hSw => _) _
              rotate_left
              · obtain ⟨z0, z1⟩ := HC.out W hSw
                go_simp
                try with_reducible rfl
              try simp only [Act.put, List.setIfInBounds_toArray, List.set_cons_zero, List.set_cons_succ]
              refine lin_eff rfl (by rfl) (fun K hK => ?_)
              go_simp
              refine (Write_any w1.heap.size vx6 ((mk (s.data.toList.take n) :: (a0 :: acc).drop 1) ++ [mk [44]]) (B f) (B q) x6.drew HOd.out (by simpa using hz6) (by simp at hacc ⊢; omega)).mono ?_
              rintro e x9 ⟨vx9, rfl, ho9, hb9⟩
              have HBx9 := HBx6.out.drew.trans (hb9 _ (Nat.le_refl _))
              have hz9 := HBx9.size
              rw [B_data, B_data] at ho9
              have HOx9 := Lib.hid ho9
              clear ho9 hb9
              go_wp2_with fail
              refine hK.out _ _ HBx9 ?_
              clear hK K
              try simp only [Act.put, List.setIfInBounds_toArray, List.set_cons_zero, List.set_cons_succ]
              refine' lin_pure rfl (by rfl) _ (fun W hSw => _) _
              rotate_left
              · obtain ⟨z0, z1⟩ := HC.out W hSw
                go_simp
                try with_reducible rfl
              try simp only [Act.put, List.setIfInBounds_toArray, List.set_cons_zero, List.set_cons_succ]
              refine lin_nil ?_
              go_wp2_with fail
              go_roundw
              case rel =>
                refine ⟨k + 1, (a0 :: acc) ++ [mk [44], (false, f, q)], by omega, by simp, by simp at hacc ⊢; omega, hy.out, ?_, HBx9, by omega⟩
                have := HOx9.out
                simpa using this
              case measure => simp [intOf]; omega
      · obtain rfl : k = fs.length := by omega
        have hpl : ¬ (fs.length : Int) < ps.length := by rw [Hlen.out]; omega
        have he := Hend.out _ heq
        have HOr := Lib.hid hown
        clear heq hown
        go_wp2_with fail
        exact HY.out _ he _ _ (Rows3.of_own rfl HOr.out (fun e => by simp at e)) (HB1.out.trans (hb.mono (by omega)))
  · have d1 : (((cutK (fs.length - 1) (s.data.toList.drop n)).length : Int) != (fs.length : Int)) = true := by rw [bne_iff_ne]; omega
    have Hn := Lib.hid (show evL (s.data.toList.take n) (s.data.toList.drop n) fs = none by unfold evL; rw [if_neg hne, if_pos (by omega)])
    generalize cutK (fs.length - 1) (s.data.toList.drop n) = ps at *
    go_enter Tryd.func20, Tryd.ntmps20
    go_wp2_with (go_at_call 18; refine hct.mono ?_; rintro e w1 ⟨A1, c1, rfl, hc1, hr1, hb1⟩; clear hr1)
    exact HN.out Hn.out _ hb1
end Go.Proofs.YtlcgfgbdehdndaaDoor
