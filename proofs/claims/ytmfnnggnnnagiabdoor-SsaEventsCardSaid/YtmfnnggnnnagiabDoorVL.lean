/- SsaEvents holds, where MaxLen's cell holds a number: the law. -/
import Derived.Test.YtmfnnggnnnagiabDoorVK
import Derived.Test.YtmfnnggnnnagiabDoorLin
set_option maxRecDepth 100000
set_option maxHeartbeats 8000000
namespace Go.Proofs.YtmfnnggnnnagiabDoor
open Go Go.RowKit

def three (a b c : ByteArray) : Nat → ByteArray
  | 0 => a
  | 1 => b
  | _ => c
def One25 (s : ByteArray) : Prop := ∀ c ∈ s.data.toList, nEol c = true
def EvlRel (a b c : ByteArray) (base : Nat) (w0 : World) (i : Value) (wr : World) : Prop := ∃ k : Nat, k ≤ 3 ∧ i = .int .i64 k ∧ (∀ j, j < k → One25 (three a b c j)) ∧ Below base w0 wr ∧ base ≤ wr.heap.size
theorem ev_size (s0 s1 s2 : ByteArray) (h0 : s0.size ≤ 100) (h1 : s1.size ≤ 100) (h2 : s2.size ≤ 200) : (evText s0.data.toList s1.data.toList s2.data.toList).length ≤ 100000 := by
  unfold evText
  have e1 := len_data s0
  have e2 := len_data s1
  have e3 := len_data s2
  have e4 : hdrL.length ≤ 100 := by decide
  have e5 : momL.length ≤ 20 := by decide
  simp only [List.length_append, List.length_cons]
  omega
def EvpPost (s0 s1 s2 : ByteArray) (W : World) (e : Ending) (w' : World) : Prop := ∃ bk c : Nat, e = .returned (.tuple #[.slice (some ⟨bk, 0, none⟩) 12 c, .agg #[.int .i64 0, .int .i64 0]]) ∧ 12 ≤ c ∧ bk < w'.heap.size ∧
  (w'.cell? ⟨bk, 15, none⟩ = some (.bool false) ∧ w'.cell? ⟨bk, 16, none⟩ = some (.string ⟨#[83, 116, 121, 108, 101]⟩) ∧ w'.cell? ⟨bk, 17, none⟩ = some (.string s0) ∧ w'.cell? ⟨bk, 23, none⟩ = some (.string ⟨#[49, 58, 48, 50, 58, 48, 51, 46, 48, 52]⟩) ∧ w'.cell? ⟨bk, 27, none⟩ = some (.bool false) ∧ w'.cell? ⟨bk, 28, none⟩ = some (.string ⟨#[78, 97, 109, 101]⟩) ∧ w'.cell? ⟨bk, 29, none⟩ = some (.string s1) ∧
    w'.cell? ⟨bk, 33, none⟩ = some (.bool false) ∧ w'.cell? ⟨bk, 34, none⟩ = some (.string ⟨#[84, 101, 120, 116]⟩) ∧ w'.cell? ⟨bk, 35, none⟩ = some (.string s2)) ∧ Below W.heap.size W w'
theorem Ev_parse (H s0 s1 s2 : ByteArray) (hH : H.data.toList = hdrL) (z0 : s0.size ≤ 100) (z1 : s1.size ≤ 100) (z2 : s2.size ≤ 200) (o : One25 s0 ∧ One25 s1 ∧ One25 s2) (h0 : 44 ∉ s0.data.toList) (h1 : 44 ∉ s1.data.toList) (W : World) (hm : ML W) :
    Calls Tryd.prog 8 #[.string (H ++ s0 ++ ⟨#[44, 49, 58, 48, 50, 58, 48, 51, 46, 48, 52, 44]⟩ ++ s1 ++ ⟨#[44]⟩ ++ s2)] W (EvpPost s0 s1 s2 W) := by
  have hd : (H ++ s0 ++ ⟨#[44, 49, 58, 48, 50, 58, 48, 51, 46, 48, 52, 44]⟩ ++ s1 ++ ⟨#[44]⟩ ++ s2 : ByteArray).data.toList = evText s0.data.toList s1.data.toList s2.data.toList := by
    simp [ByteArray.data_append, hH, evText, momL]
  have hsz : (H ++ s0 ++ ⟨#[44, 49, 58, 48, 50, 58, 48, 51, 46, 48, 52, 44]⟩ ++ s1 ++ ⟨#[44]⟩ ++ s2 : ByteArray).size ≤ 100000 := by
    rw [← len_data, hd]; exact ev_size s0 s1 s2 z0 z1 z2
  refine (SParse_any _ hsz W hm).mono ?_
  rintro e w' ⟨v, x, a, rfl, hr, hb⟩
  rw [hd, ev_walk o.1 o.2.1 o.2.2 h0 h1] at hr
  rcases hr with ⟨ps, h, hv, _, rfl, rfl⟩ | ⟨n, h, _⟩
  · injection h with h
    rcases hv with ⟨h5, _⟩ | ⟨bk, c, _, rfl, h2, h3, h4⟩
    · rw [h5] at h; cases h
    · have hl : ps.length = 12 := by rw [← h]; rfl
      rw [hl] at h2 ⊢
      rw [← h] at h4
      refine ⟨bk, c, rfl, h2, h3, ⟨h4 15 _ rfl, h4 16 _ rfl, ?_, h4 23 _ rfl, h4 27 _ rfl, h4 28 _ rfl, ?_, h4 33 _ rfl, h4 34 _ rfl, ?_⟩, hb⟩
      · rw [B_of s0]; exact h4 17 _ rfl
      · rw [B_of s1]; exact h4 29 _ rfl
      · rw [B_of s2]; exact h4 35 _ rfl
  · cases h
theorem SsaEvents_law (s0 s1 s2 : ByteArray) (w : World) (hm : ML w) :
    Calls Tryd.prog 6 #[.string s0, .string s1, .string s2] w fun e w' => e = .returned (.bool true) ∧ Below w.heap.size w w' := by
  have HP : Hid (∀ w', Below w.heap.size w w' → (fun e w' => e = Ending.returned (.bool true) ∧ Below w.heap.size w w') (.returned (.bool true)) w') := Lib.hid fun w' hb => ⟨rfl, hb⟩
  generalize (fun (e : Ending) (w' : World) => e = Ending.returned (.bool true) ∧ Below w.heap.size w w') = P at *
  have haw := fun W hb => aw25 hm W hb
  by_cases q0 : (100 : Int) < s0.size
  · go_enter Tryd.func6, Tryd.ntmps6
    go_wp2_with (go_at_call 7; refine (haw _ (Below.refl _ _)).mono ?_; rintro e w9 ⟨rfl, hb9⟩)
    exact HP.out _ hb9
  by_cases q1 : (100 : Int) < s1.size
  · go_enter Tryd.func6, Tryd.ntmps6
    go_wp2_with (go_at_call 7; refine (haw _ (Below.refl _ _)).mono ?_; rintro e w9 ⟨rfl, hb9⟩)
    exact HP.out _ hb9
  by_cases q2 : (200 : Int) < s2.size
  · go_enter Tryd.func6, Tryd.ntmps6
    go_wp2_with (go_at_call 7; refine (haw _ (Below.refl _ _)).mono ?_; rintro e w9 ⟨rfl, hb9⟩)
    exact HP.out _ hb9
  have hsz : ∀ k, k < 3 → (three s0 s1 s2 k).size ≤ 200 := fun k hk => by
    match k, hk with
    | 0, _ => show s0.size ≤ 200; omega
    | 1, _ => show s1.size ≤ 200; omega
    | 2, _ => show s2.size ≤ 200; omega
  obtain ⟨w0, hw0⟩ : ∃ w0, w0 = w.alloc (.cells #[.string s0, .string s1, .string s2] 9) := ⟨_, rfl⟩
  have hB0 : Below w.heap.size w w0 := by rw [hw0]; exact (Below.refl _ _).alloc (Nat.le_refl _) _
  have hz0 : w.heap.size < w0.heap.size := by rw [hw0]; simp
  have hcl : ∀ k, k < 3 → w0.cell? ⟨w.heap.size, k, none⟩ = some (.string (three s0 s1 s2 k)) := fun k hk => by
    rw [hw0, cell_of_row _ w.heap.size k _ 9 (0, 0) (heap_alloc_new w _)]
    match k, hk with
    | 0, _ => rfl
    | 1, _ => rfl
    | 2, _ => rfl
  have Hw0 := Lib.hid hw0
  have hst : EvlRel s0 s1 s2 w0.heap.size w0 (.int .i64 0) w0 := ⟨0, by omega, rfl, fun j hj => by omega, Below.refl _ _, Nat.le_refl _⟩
  go_enter Tryd.func6, Tryd.ntmps6
  obtain ⟨H, hH⟩ : ∃ H : ByteArray, H = ⟨List.toArray (91 :: 69 :: 118 :: 101 :: 110 :: 116 :: 115 :: 93 :: 13 :: 10 :: 70 :: 111 :: 114 :: 109 :: 97 :: 116 :: 58 :: 32 :: 83 :: 116 :: 121 :: 108 :: 101 :: 44 :: 32 :: 83 :: 116 :: 97 :: 114 :: 116 :: 44 :: 78 :: 97 :: 109 :: 101 :: 32 :: 44 :: 32 :: 84 :: 101 :: 120 :: 116 :: 13 :: 10 :: 67 :: 111 :: 109 :: 109 :: 101 :: 110 :: 116 :: 58 :: 32 :: [])⟩ := ⟨_, rfl⟩
  have hHs : H.size ≤ 100 := by rw [hH]; decide
  rw [← hH]
  have HH := Lib.hid (show H.data.toList = hdrL by rw [hH]; rfl)
  clear hH
  go_wp2_with fail
  try rw [← Hw0.out]
  clear hw0
  go_loopw [31] (fun i wr => EvlRel s0 s1 s2 w0.heap.size w0 i wr) (fun i _ => 3 - (intOf i).toNat)
  case atStart => exact hst
  case round =>
    obtain ⟨k, hk, rfl, hone, hb, hbz⟩ := hrel
    have HB := Lib.hid (hB0.trans (hb.mono (by omega)))
    by_cases hlt : k < 3
    · have ck := (hb.cell (p := ⟨w.heap.size, k, none⟩) hz0).trans (hcl k hlt)
      have hsk := hsz k hlt
      generalize hT : three s0 s1 s2 k = T at *
      have hrl := fun W => RLines_any T (by omega) W
      unfold LsPost at hrl
      have hol := one_line5 (t := T.data.toList)
      have Hone := Lib.hid hone
      have HT := Lib.hid hT
      clear hone hT
      generalize linesL T.data.toList = L at *
      by_cases hL : (1 : Int) < L.length
      · clear hol
        go_wp2_with (first
          | (go_at_call 16; refine (hrl _).mono ?_; rintro e w1 ⟨v, rfl, hr, hb1⟩; obtain ⟨A, c, rfl, hc, hA⟩ := rowsG hr; clear hA hr)
          | (go_at_call 7; refine (haw _ (bch HB.out hb1)).mono ?_; rintro e w9 ⟨rfl, hb9⟩))
        exact HP.out _ (bch (bch HB.out hb1) hb9)
      · cases L with
        | nil =>
          have Hol := Lib.hid (hol (fun x h => by cases h))
          clear hol
          go_wp2_with (first
            | (go_at_call 16; refine (hrl _).mono ?_; rintro e w1 ⟨v, rfl, hr, hb1⟩; obtain ⟨A, c, rfl, hc, hA⟩ := rowsG hr; clear hA hr; have hz1 := hb1.size))
          go_roundw
          case rel => exact ⟨k + 1, by omega, by simp, fun j hj => by
            by_cases e : j = k
            · subst e; rw [HT.out]; exact Hol.out
            · exact Hone.out j (by omega), hb.trans (hb1.mono hbz), by omega⟩
          case measure => simp [intOf]; omega
        | cons x L =>
          have hL0 : L = [] := List.eq_nil_of_length_eq_zero (by simp at hL; omega)
          subst hL0
          obtain ⟨T1, E, q⟩ := x
          by_cases hE : E = []
          · have Hol := Lib.hid (hol (fun x h => by simp at h; subst h; exact hE))
            have hEi : (B E).toList.isEmpty = true := by rw [ByteArray.toList_eq, B_data]; rw [hE]; rfl
            clear hol hE
            go_wp2_with (first
              | (go_at_call 16; refine (hrl _).mono ?_; rintro e w1 ⟨v, rfl, hr, hb1⟩; obtain ⟨A, c, rfl, hc, hA⟩ := rowsG hr; obtain ⟨bk, rfl, hbk, hcell⟩ := hA (by simp); obtain ⟨y0, y1, y2⟩ := Rows3.at_ (f := lnV) (fun _ => rfl) hcell (show [((T1, E, q) : Ln)][0]? = some (T1, E, q) from rfl) rfl; clear hA hr hcell; have hz1 := hb1.size))
            go_roundw
            case rel => exact ⟨k + 1, by omega, by simp, fun j hj => by
              by_cases e : j = k
              · subst e; rw [HT.out]; exact Hol.out
              · exact Hone.out j (by omega), hb.trans (hb1.mono hbz), by omega⟩
            case measure => simp [intOf]; omega
          · have hEi : (B E).toList.isEmpty = false := by rw [ByteArray.toList_eq, B_data]; cases E with | nil => exact absurd rfl hE | cons _ _ => rfl
            clear hol hE
            go_wp2_with (first
              | (go_at_call 16; refine (hrl _).mono ?_; rintro e w1 ⟨v, rfl, hr, hb1⟩; obtain ⟨A, c, rfl, hc, hA⟩ := rowsG hr; obtain ⟨bk, rfl, hbk, hcell⟩ := hA (by simp); obtain ⟨y0, y1, y2⟩ := Rows3.at_ (f := lnV) (fun _ => rfl) hcell (show [((T1, E, q) : Ln)][0]? = some (T1, E, q) from rfl) rfl; clear hA hr hcell; have hz1 := hb1.size)
              | (go_at_call 7; refine (haw _ (bch HB.out hb1)).mono ?_; rintro e w9 ⟨rfl, hb9⟩))
            exact HP.out _ (bch (bch HB.out hb1) hb9)
    · obtain rfl : k = 3 := by omega
      have o0 : One25 s0 := hone 0 (by omega)
      have o1 : One25 s1 := hone 1 (by omega)
      have o2 : One25 s2 := hone 2 (by omega)
      have hct0 := fun W => RCut_any s0 9 (by omega) (by decide) W
      have hct1 := fun W => RCut_any s1 9 (by omega) (by decide) W
      unfold CtPost at hct0 hct1
      have ho0 := cut_one (s := s0.data.toList)
      have ho1 := cut_one (s := s1.data.toList)
      rw [show 9 - 1 = 8 from rfl] at hct0 hct1
      have O := Lib.hid (show One25 s0 ∧ One25 s1 ∧ One25 s2 from ⟨o0, o1, o2⟩)
      have z0 : s0.size ≤ 100 := by omega
      have z1 : s1.size ≤ 100 := by omega
      have z2 : s2.size ≤ 200 := by omega
      clear hone o0 o1 o2 hcl hst hsz hb hB0 Hw0 hz0 hbz
      have HO0 := Lib.hid ho0
      have HO1 := Lib.hid ho1
      clear ho0 ho1
      by_cases r0 : (1 : Int) < (cutK 8 s0.data.toList).length
      · generalize cutK 8 s0.data.toList = L0 at *
        go_wp2_with (first
          | (go_at_call 17; refine (hct0 _).mono ?_; rintro e w1 ⟨A, c, rfl, hc, hr, hb1⟩; clear hr)
          | (go_at_call 7; refine (haw _ (bch HB.out hb1)).mono ?_; rintro e w9 ⟨rfl, hb9⟩))
        exact HP.out _ (bch (bch HB.out hb1) hb9)
      have HC0 := Lib.hid (HO0.out (by omega))
      by_cases r1 : (1 : Int) < (cutK 8 s1.data.toList).length
      · generalize cutK 8 s0.data.toList = L0 at *
        generalize cutK 8 s1.data.toList = L1 at *
        go_wp2_with (first
          | (go_at_call 17; first
            | (refine (hct0 _).mono ?_; rintro e w1 ⟨A, c, rfl, hc, hr, hb1⟩; clear hr hct0)
            | (refine (hct1 _).mono ?_; rintro e w2 ⟨A', c', rfl, hc', hr, hb2⟩; clear hr hct1))
          | (go_at_call 7; refine (haw _ (bch HB.out (bch hb1 hb2))).mono ?_; rintro e w9 ⟨rfl, hb9⟩))
        exact HP.out _ (bch (bch HB.out (bch hb1 hb2)) hb9)
      have HC1 := Lib.hid (HO1.out (by omega))
      generalize cutK 8 s0.data.toList = L0 at *
      generalize cutK 8 s1.data.toList = L1 at *
      go_wp2_with (first
        | (go_at_call 17; first
          | (refine (hct0 _).mono ?_; rintro e w1 ⟨A, c, rfl, hc, hr, hb1⟩; clear hr hct0)
          | (refine (hct1 _).mono ?_; rintro e w2 ⟨A', c', rfl, hc', hr, hb2⟩; clear hr hct1))
        | (go_at_call 8; refine (Ev_parse H s0 s1 s2 HH.out z0 z1 z2 O.out HC0.out HC1.out _ (ML_below hm (bch HB.out (bch hb1 hb2)))).mono ?_; rintro e w3 ⟨bk, c3, rfl, hc3, hbk, hcc, hb3⟩; have Hcc := Lib.hid hcc; clear hcc))
      obtain ⟨W4, hW4⟩ : ∃ W4, W4 = w3.alloc (.cells #[.int .i64 0, .int .i64 0] 26) := ⟨_, rfl⟩
      have H34 : Below w3.heap.size w3 W4 := by rw [hW4]; exact (Below.refl _ _).alloc (Nat.le_refl _) _
      have HB4 := Lib.hid (bch (bch (bch HB.out (bch hb1 hb2)) hb3) H34)
      have hz4 : w3.heap.size < W4.heap.size := by rw [hW4]; simp
      have hfc : ∀ W, Below W4.heap.size W4 W → W.cell? ⟨w3.heap.size, 0, none⟩ = some (.int .i64 0) ∧ W.cell? ⟨w3.heap.size, 1, none⟩ = some (.int .i64 0) := fun W hW =>
        ⟨(hW.cell (p := ⟨w3.heap.size, 0, none⟩) hz4).trans (by rw [hW4, cell_of_row _ w3.heap.size 0 _ _ (0, 0) (heap_alloc_new w3 _)]; rfl), (hW.cell (p := ⟨w3.heap.size, 1, none⟩) hz4).trans (by rw [hW4, cell_of_row _ w3.heap.size 1 _ _ (0, 0) (heap_alloc_new w3 _)]; rfl)⟩
      have hkc : ∀ W, Below W4.heap.size W4 W → ∀ (j : Nat) u, w3.cell? ⟨bk, j, none⟩ = some u → W.cell? ⟨bk, j, none⟩ = some u := fun W hW j u hu => (hW.cell (p := ⟨bk, j, none⟩) (by show bk < _; omega)).trans ((H34.cell (p := ⟨bk, j, none⟩) hbk).trans hu)
      obtain ⟨k0, k1, k2, k3, k4, k5, k6, k7, k8, k9⟩ := Hcc.out
      have hall : ∀ W, Below W4.heap.size W4 W → W.cell? ⟨bk, 15, none⟩ = some (.bool false) ∧ W.cell? ⟨bk, 16, none⟩ = some (.string ⟨#[83, 116, 121, 108, 101]⟩) ∧ W.cell? ⟨bk, 17, none⟩ = some (.string s0) ∧ W.cell? ⟨bk, 23, none⟩ = some (.string ⟨#[49, 58, 48, 50, 58, 48, 51, 46, 48, 52]⟩) ∧ W.cell? ⟨bk, 27, none⟩ = some (.bool false) ∧ W.cell? ⟨bk, 28, none⟩ = some (.string ⟨#[78, 97, 109, 101]⟩) ∧ W.cell? ⟨bk, 29, none⟩ = some (.string s1) ∧ W.cell? ⟨bk, 33, none⟩ = some (.bool false) ∧ W.cell? ⟨bk, 34, none⟩ = some (.string ⟨#[84, 101, 120, 116]⟩) ∧ W.cell? ⟨bk, 35, none⟩ = some (.string s2) := fun W hW =>
        ⟨hkc W hW _ _ k0, hkc W hW _ _ k1, hkc W hW _ _ k2, hkc W hW _ _ k3, hkc W hW _ _ k4, hkc W hW _ _ k5, hkc W hW _ _ k6, hkc W hW _ _ k7, hkc W hW _ _ k8, hkc W hW _ _ k9⟩
      have Hall := Lib.hid hall
      have Hfc := Lib.hid hfc
      rw [← hW4]
      clear k0 k1 k2 k3 k4 k5 k6 k7 k8 k9 hkc hall hfc hW4
      have hS0 : Below W4.heap.size W4 W4.drew := (Below.refl _ _).drew
      have hb0 := awake25 W4.drew (ML_below hm (bch HB4.out hS0))
      refine wp_region_lin (fun W => Below W4.heap.size W4 W) [(0, false), (1, true), (2, true), (3, false), (4, true), (5, true), (6, true), (7, true), (8, true), (9, true), (10, true), (11, true), (12, true), (13, true), (14, true), (15, true), (16, false), (17, true), (18, true), (19, true), (20, true), (21, true), (22, true), (23, true), (24, true), (25, true), (26, true), (27, true), (28, true), (29, true), (30, true), (31, false), (32, true), (33, true), (34, true), (35, true), (36, true), (37, true), (38, true), (39, false), (40, true), (41, true), (42, true)] (by kernel_rfl) (by kernel_rfl) (by kernel_rfl) (Nat.le_of_ble_eq_true rfl) (fun _ _ d _ _ h => by cases d <;> exact h) hS0 ?_
      generalize W4.drew = W5 at *
      refine lin_eff rfl (by rfl) (fun K hK => ?_)
      go_simp
      refine (hb0).mono ?_
      rintro e X6 ⟨rfl, hx6⟩
      have hS_6 := hS0.trans (hx6.mono hS0.size)
      go_wp2_with fail
      refine hK.out _ _ hS_6 ?_
      clear hK K
      try simp only [Act.put, List.setIfInBounds_toArray, List.set_cons_zero, List.set_cons_succ]
      refine' lin_pure rfl (by rfl) _ (fun W hSw => _) _
      rotate_left
      · obtain ⟨x0, x1, x2, x3, x4, x5, x6, x7, x8, x9⟩ := Hall.out W hSw
        obtain ⟨y0, y1⟩ := Hfc.out W hSw
        go_simp
        try with_reducible rfl
      try simp only [Act.put, List.setIfInBounds_toArray, List.set_cons_zero, List.set_cons_succ]
      refine' lin_pure rfl (by rfl) _ (fun W hSw => _) _
      rotate_left
      · obtain ⟨x0, x1, x2, x3, x4, x5, x6, x7, x8, x9⟩ := Hall.out W hSw
        obtain ⟨y0, y1⟩ := Hfc.out W hSw
        go_simp
        try with_reducible rfl
      try simp only [Act.put, List.setIfInBounds_toArray, List.set_cons_zero, List.set_cons_succ]
      refine lin_eff rfl (by rfl) (fun K hK => ?_)
      go_simp
      refine (Bad0 _).mono ?_
      rintro e X7 ⟨rfl, hx7⟩
      have hS_7 := hS_6.trans (hx7.mono hS_6.size)
      go_wp2_with fail
      refine hK.out _ _ hS_7 ?_
      clear hK K
      try simp only [Act.put, List.setIfInBounds_toArray, List.set_cons_zero, List.set_cons_succ]
      refine' lin_pure rfl (by rfl) _ (fun W hSw => _) _
      rotate_left
      · obtain ⟨x0, x1, x2, x3, x4, x5, x6, x7, x8, x9⟩ := Hall.out W hSw
        obtain ⟨y0, y1⟩ := Hfc.out W hSw
        go_simp
        try with_reducible rfl
      try simp only [Act.put, List.setIfInBounds_toArray, List.set_cons_zero, List.set_cons_succ]
      refine' lin_pure rfl (by rfl) _ (fun W hSw => _) _
      rotate_left
      · obtain ⟨x0, x1, x2, x3, x4, x5, x6, x7, x8, x9⟩ := Hall.out W hSw
        obtain ⟨y0, y1⟩ := Hfc.out W hSw
        go_simp
        try with_reducible rfl
      try simp only [Act.put, List.setIfInBounds_toArray, List.set_cons_zero, List.set_cons_succ]
      refine' lin_pure rfl (by rfl) _ (fun W hSw => _) _
      rotate_left
      · obtain ⟨x0, x1, x2, x3, x4, x5, x6, x7, x8, x9⟩ := Hall.out W hSw
        obtain ⟨y0, y1⟩ := Hfc.out W hSw
        go_simp
        try with_reducible rfl
      try simp only [Act.put, List.setIfInBounds_toArray, List.set_cons_zero, List.set_cons_succ]
      refine' lin_pure rfl (by rfl) _ (fun W hSw => _) _
      rotate_left
      · obtain ⟨x0, x1, x2, x3, x4, x5, x6, x7, x8, x9⟩ := Hall.out W hSw
        obtain ⟨y0, y1⟩ := Hfc.out W hSw
        go_simp
        try with_reducible rfl
      try simp only [Act.put, List.setIfInBounds_toArray, List.set_cons_zero, List.set_cons_succ]
      refine' lin_pure rfl (by rfl) _ (fun W hSw => _) _
      rotate_left
      · obtain ⟨x0, x1, x2, x3, x4, x5, x6, x7, x8, x9⟩ := Hall.out W hSw
        obtain ⟨y0, y1⟩ := Hfc.out W hSw
        go_simp
        try with_reducible rfl
      try simp only [Act.put, List.setIfInBounds_toArray, List.set_cons_zero, List.set_cons_succ]
      refine' lin_pure rfl (by rfl) _ (fun W hSw => _) _
      rotate_left
      · obtain ⟨x0, x1, x2, x3, x4, x5, x6, x7, x8, x9⟩ := Hall.out W hSw
        obtain ⟨y0, y1⟩ := Hfc.out W hSw
        go_simp
        try with_reducible rfl
      try simp only [Act.put, List.setIfInBounds_toArray, List.set_cons_zero, List.set_cons_succ]
      refine' lin_pure rfl (by rfl) _ (fun W hSw => _) _
      rotate_left
      · obtain ⟨x0, x1, x2, x3, x4, x5, x6, x7, x8, x9⟩ := Hall.out W hSw
        obtain ⟨y0, y1⟩ := Hfc.out W hSw
        go_simp
        try with_reducible rfl
      try simp only [Act.put, List.setIfInBounds_toArray, List.set_cons_zero, List.set_cons_succ]
      refine' lin_pure rfl (by rfl) _ (fun W hSw => _) _
      rotate_left
      · obtain ⟨x0, x1, x2, x3, x4, x5, x6, x7, x8, x9⟩ := Hall.out W hSw
        obtain ⟨y0, y1⟩ := Hfc.out W hSw
        go_simp
        try with_reducible rfl
      try simp only [Act.put, List.setIfInBounds_toArray, List.set_cons_zero, List.set_cons_succ]
      refine' lin_pure rfl (by rfl) _ (fun W hSw => _) _
      rotate_left
      · obtain ⟨x0, x1, x2, x3, x4, x5, x6, x7, x8, x9⟩ := Hall.out W hSw
        obtain ⟨y0, y1⟩ := Hfc.out W hSw
        go_simp
        try with_reducible rfl
      try simp only [Act.put, List.setIfInBounds_toArray, List.set_cons_zero, List.set_cons_succ]
      refine' lin_pure rfl (by rfl) _ (fun W hSw => _) _
      rotate_left
      · obtain ⟨x0, x1, x2, x3, x4, x5, x6, x7, x8, x9⟩ := Hall.out W hSw
        obtain ⟨y0, y1⟩ := Hfc.out W hSw
        go_simp
        try with_reducible rfl
      try simp only [Act.put, List.setIfInBounds_toArray, List.set_cons_zero, List.set_cons_succ]
      refine' lin_pure rfl (by rfl) _ (fun W hSw => _) _
      rotate_left
      · obtain ⟨x0, x1, x2, x3, x4, x5, x6, x7, x8, x9⟩ := Hall.out W hSw
        obtain ⟨y0, y1⟩ := Hfc.out W hSw
        go_simp
        try with_reducible rfl
      try simp only [Act.put, List.setIfInBounds_toArray, List.set_cons_zero, List.set_cons_succ]
      refine' lin_pure rfl (by rfl) _ (fun W hSw => _) _
      rotate_left
      · obtain ⟨x0, x1, x2, x3, x4, x5, x6, x7, x8, x9⟩ := Hall.out W hSw
        obtain ⟨y0, y1⟩ := Hfc.out W hSw
        go_simp
        try with_reducible rfl
      try simp only [Act.put, List.setIfInBounds_toArray, List.set_cons_zero, List.set_cons_succ]
      refine lin_eff rfl (by rfl) (fun K hK => ?_)
      go_simp
      refine (Text_any _ _ _).mono ?_
      rintro e X8 ⟨rfl, hx8⟩
      have hS_8 := hS_7.trans (hx8.mono hS_7.size)
      go_wp2_with fail
      refine hK.out _ _ hS_8 ?_
      clear hK K
      try simp only [Act.put, List.setIfInBounds_toArray, List.set_cons_zero, List.set_cons_succ]
      refine' lin_pure rfl (by rfl) _ (fun W hSw => _) _
      rotate_left
      · obtain ⟨x0, x1, x2, x3, x4, x5, x6, x7, x8, x9⟩ := Hall.out W hSw
        obtain ⟨y0, y1⟩ := Hfc.out W hSw
        go_simp
        try with_reducible rfl
      try simp only [Act.put, List.setIfInBounds_toArray, List.set_cons_zero, List.set_cons_succ]
      refine' lin_pure rfl (by rfl) _ (fun W hSw => _) _
      rotate_left
      · obtain ⟨x0, x1, x2, x3, x4, x5, x6, x7, x8, x9⟩ := Hall.out W hSw
        obtain ⟨y0, y1⟩ := Hfc.out W hSw
        go_simp
        try with_reducible rfl
      try simp only [Act.put, List.setIfInBounds_toArray, List.set_cons_zero, List.set_cons_succ]
      refine' lin_pure rfl (by rfl) _ (fun W hSw => _) _
      rotate_left
      · obtain ⟨x0, x1, x2, x3, x4, x5, x6, x7, x8, x9⟩ := Hall.out W hSw
        obtain ⟨y0, y1⟩ := Hfc.out W hSw
        go_simp
        try with_reducible rfl
      try simp only [Act.put, List.setIfInBounds_toArray, List.set_cons_zero, List.set_cons_succ]
      refine' lin_pure rfl (by rfl) _ (fun W hSw => _) _
      rotate_left
      · obtain ⟨x0, x1, x2, x3, x4, x5, x6, x7, x8, x9⟩ := Hall.out W hSw
        obtain ⟨y0, y1⟩ := Hfc.out W hSw
        go_simp
        try with_reducible rfl
      try simp only [Act.put, List.setIfInBounds_toArray, List.set_cons_zero, List.set_cons_succ]
      refine' lin_pure rfl (by rfl) _ (fun W hSw => _) _
      rotate_left
      · obtain ⟨x0, x1, x2, x3, x4, x5, x6, x7, x8, x9⟩ := Hall.out W hSw
        obtain ⟨y0, y1⟩ := Hfc.out W hSw
        go_simp
        try with_reducible rfl
      try simp only [Act.put, List.setIfInBounds_toArray, List.set_cons_zero, List.set_cons_succ]
      refine' lin_pure rfl (by rfl) _ (fun W hSw => _) _
      rotate_left
      · obtain ⟨x0, x1, x2, x3, x4, x5, x6, x7, x8, x9⟩ := Hall.out W hSw
        obtain ⟨y0, y1⟩ := Hfc.out W hSw
        go_simp
        try with_reducible rfl
      try simp only [Act.put, List.setIfInBounds_toArray, List.set_cons_zero, List.set_cons_succ]
      refine' lin_pure rfl (by rfl) _ (fun W hSw => _) _
      rotate_left
      · obtain ⟨x0, x1, x2, x3, x4, x5, x6, x7, x8, x9⟩ := Hall.out W hSw
        obtain ⟨y0, y1⟩ := Hfc.out W hSw
        go_simp
        try with_reducible rfl
      try simp only [Act.put, List.setIfInBounds_toArray, List.set_cons_zero, List.set_cons_succ]
      refine' lin_pure rfl (by rfl) _ (fun W hSw => _) _
      rotate_left
      · obtain ⟨x0, x1, x2, x3, x4, x5, x6, x7, x8, x9⟩ := Hall.out W hSw
        obtain ⟨y0, y1⟩ := Hfc.out W hSw
        go_simp
        try with_reducible rfl
      try simp only [Act.put, List.setIfInBounds_toArray, List.set_cons_zero, List.set_cons_succ]
      refine' lin_pure rfl (by rfl) _ (fun W hSw => _) _
      rotate_left
      · obtain ⟨x0, x1, x2, x3, x4, x5, x6, x7, x8, x9⟩ := Hall.out W hSw
        obtain ⟨y0, y1⟩ := Hfc.out W hSw
        go_simp
        try with_reducible rfl
      try simp only [Act.put, List.setIfInBounds_toArray, List.set_cons_zero, List.set_cons_succ]
      refine' lin_pure rfl (by rfl) _ (fun W hSw => _) _
      rotate_left
      · obtain ⟨x0, x1, x2, x3, x4, x5, x6, x7, x8, x9⟩ := Hall.out W hSw
        obtain ⟨y0, y1⟩ := Hfc.out W hSw
        go_simp
        try with_reducible rfl
      try simp only [Act.put, List.setIfInBounds_toArray, List.set_cons_zero, List.set_cons_succ]
      refine' lin_pure rfl (by rfl) _ (fun W hSw => _) _
      rotate_left
      · obtain ⟨x0, x1, x2, x3, x4, x5, x6, x7, x8, x9⟩ := Hall.out W hSw
        obtain ⟨y0, y1⟩ := Hfc.out W hSw
        go_simp
        try with_reducible rfl
      try simp only [Act.put, List.setIfInBounds_toArray, List.set_cons_zero, List.set_cons_succ]
      refine' lin_pure rfl (by rfl) _ (fun W hSw => _) _
      rotate_left
      · obtain ⟨x0, x1, x2, x3, x4, x5, x6, x7, x8, x9⟩ := Hall.out W hSw
        obtain ⟨y0, y1⟩ := Hfc.out W hSw
        go_simp
        try with_reducible rfl
      try simp only [Act.put, List.setIfInBounds_toArray, List.set_cons_zero, List.set_cons_succ]
      refine' lin_pure rfl (by rfl) _ (fun W hSw => _) _
      rotate_left
      · obtain ⟨x0, x1, x2, x3, x4, x5, x6, x7, x8, x9⟩ := Hall.out W hSw
        obtain ⟨y0, y1⟩ := Hfc.out W hSw
        go_simp
        try with_reducible rfl
      try simp only [Act.put, List.setIfInBounds_toArray, List.set_cons_zero, List.set_cons_succ]
      refine' lin_pure rfl (by rfl) _ (fun W hSw => _) _
      rotate_left
      · obtain ⟨x0, x1, x2, x3, x4, x5, x6, x7, x8, x9⟩ := Hall.out W hSw
        obtain ⟨y0, y1⟩ := Hfc.out W hSw
        go_simp
        try with_reducible rfl
      try simp only [Act.put, List.setIfInBounds_toArray, List.set_cons_zero, List.set_cons_succ]
      refine lin_eff rfl (by rfl) (fun K hK => ?_)
      go_simp
      refine (Text_any _ _ _).mono ?_
      rintro e X9 ⟨rfl, hx9⟩
      have hS_9 := hS_8.trans (hx9.mono hS_8.size)
      go_wp2_with fail
      refine hK.out _ _ hS_9 ?_
      clear hK K
      try simp only [Act.put, List.setIfInBounds_toArray, List.set_cons_zero, List.set_cons_succ]
      refine' lin_pure rfl (by rfl) _ (fun W hSw => _) _
      rotate_left
      · obtain ⟨x0, x1, x2, x3, x4, x5, x6, x7, x8, x9⟩ := Hall.out W hSw
        obtain ⟨y0, y1⟩ := Hfc.out W hSw
        go_simp
        try with_reducible rfl
      try simp only [Act.put, List.setIfInBounds_toArray, List.set_cons_zero, List.set_cons_succ]
      refine' lin_pure rfl (by rfl) _ (fun W hSw => _) _
      rotate_left
      · obtain ⟨x0, x1, x2, x3, x4, x5, x6, x7, x8, x9⟩ := Hall.out W hSw
        obtain ⟨y0, y1⟩ := Hfc.out W hSw
        go_simp
        try with_reducible rfl
      try simp only [Act.put, List.setIfInBounds_toArray, List.set_cons_zero, List.set_cons_succ]
      refine' lin_pure rfl (by rfl) _ (fun W hSw => _) _
      rotate_left
      · obtain ⟨x0, x1, x2, x3, x4, x5, x6, x7, x8, x9⟩ := Hall.out W hSw
        obtain ⟨y0, y1⟩ := Hfc.out W hSw
        go_simp
        try with_reducible rfl
      try simp only [Act.put, List.setIfInBounds_toArray, List.set_cons_zero, List.set_cons_succ]
      refine' lin_pure rfl (by rfl) _ (fun W hSw => _) _
      rotate_left
      · obtain ⟨x0, x1, x2, x3, x4, x5, x6, x7, x8, x9⟩ := Hall.out W hSw
        obtain ⟨y0, y1⟩ := Hfc.out W hSw
        go_simp
        try with_reducible rfl
      try simp only [Act.put, List.setIfInBounds_toArray, List.set_cons_zero, List.set_cons_succ]
      refine' lin_pure rfl (by rfl) _ (fun W hSw => _) _
      rotate_left
      · obtain ⟨x0, x1, x2, x3, x4, x5, x6, x7, x8, x9⟩ := Hall.out W hSw
        obtain ⟨y0, y1⟩ := Hfc.out W hSw
        go_simp
        try with_reducible rfl
      try simp only [Act.put, List.setIfInBounds_toArray, List.set_cons_zero, List.set_cons_succ]
      refine' lin_pure rfl (by rfl) _ (fun W hSw => _) _
      rotate_left
      · obtain ⟨x0, x1, x2, x3, x4, x5, x6, x7, x8, x9⟩ := Hall.out W hSw
        obtain ⟨y0, y1⟩ := Hfc.out W hSw
        go_simp
        try with_reducible rfl
      try simp only [Act.put, List.setIfInBounds_toArray, List.set_cons_zero, List.set_cons_succ]
      refine' lin_pure rfl (by rfl) _ (fun W hSw => _) _
      rotate_left
      · obtain ⟨x0, x1, x2, x3, x4, x5, x6, x7, x8, x9⟩ := Hall.out W hSw
        obtain ⟨y0, y1⟩ := Hfc.out W hSw
        go_simp
        try with_reducible rfl
      try simp only [Act.put, List.setIfInBounds_toArray, List.set_cons_zero, List.set_cons_succ]
      refine lin_eff rfl (by rfl) (fun K hK => ?_)
      go_simp
      refine (Text_any _ _ _).mono ?_
      rintro e X10 ⟨rfl, hx10⟩
      have hS9 := hS_9.trans (hx10.mono hS_9.size)
      go_wp2_with fail
      refine hK.out _ _ hS9 ?_
      clear hK K
      try simp only [Act.put, List.setIfInBounds_toArray, List.set_cons_zero, List.set_cons_succ]
      refine' lin_pure rfl (by rfl) _ (fun W hSw => _) _
      rotate_left
      · obtain ⟨x0, x1, x2, x3, x4, x5, x6, x7, x8, x9⟩ := Hall.out W hSw
        obtain ⟨y0, y1⟩ := Hfc.out W hSw
        go_simp
        try with_reducible rfl
      try simp only [Act.put, List.setIfInBounds_toArray, List.set_cons_zero, List.set_cons_succ]
      refine' lin_pure rfl (by rfl) _ (fun W hSw => _) _
      rotate_left
      · obtain ⟨x0, x1, x2, x3, x4, x5, x6, x7, x8, x9⟩ := Hall.out W hSw
        obtain ⟨y0, y1⟩ := Hfc.out W hSw
        go_simp
        try with_reducible rfl
      try simp only [Act.put, List.setIfInBounds_toArray, List.set_cons_zero, List.set_cons_succ]
      refine' lin_pure rfl (by rfl) _ (fun W hSw => _) _
      rotate_left
      · obtain ⟨x0, x1, x2, x3, x4, x5, x6, x7, x8, x9⟩ := Hall.out W hSw
        obtain ⟨y0, y1⟩ := Hfc.out W hSw
        go_simp
        try with_reducible rfl
      try simp only [Act.put, List.setIfInBounds_toArray, List.set_cons_zero, List.set_cons_succ]
      refine lin_nil ?_
      go_wp2_with fail
      exact HP.out _ (bch HB4.out hS9)
end Go.Proofs.YtmfnnggnnnagiabDoor
