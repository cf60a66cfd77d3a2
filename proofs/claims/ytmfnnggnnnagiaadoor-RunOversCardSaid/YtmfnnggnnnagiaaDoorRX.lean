/- Law RunBack; condition: the pieces lie as listed, with their signs. -/
import Derived.Test.YtmfnnggnnnagiaaDoorRW
set_option maxRecDepth 100000
set_option maxHeartbeats 4000000
namespace Go.Proofs.YtmfnnggnnnagiaaDoor
open Go Go.RowKit

theorem prsT_srt {w : World} {B : Nat} {A : Option Addr} {rs : List (Rw × Sl)} (h : TbR w B A rs) : Srt (prsT rs) := rows_srt _ h.2.2.1
theorem prsT_rng {w : World} {B : Nat} {A : Option Addr} {rs : List (Rw × Sl)} (h : TbR w B A rs) {x : Pr} (hx : x ∈ prsT rs) : 0 ≤ x.2 ∧ x.2 ≤ 1114111 := by
  obtain ⟨y, hy, hxy⟩ := mem_prsT.1 hx
  have hm := mem_prs.1 hxy
  obtain ⟨⟨h1, h2, h3⟩, _⟩ := h.2.1 y hy
  rw [hm.2.2]
  unfold sgAt
  generalize y.1.2.2.2 = q at *
  cases q with
  | none => simp only at h3 ⊢; omega
  | some l =>
    simp only at h3 ⊢
    exact h3.2.2 _ (getD_mem (by omega))
theorem srt_lt {M : List Pr} (h : Srt M) {i j : Nat} {x y : Pr} (hx : M[i]? = some x) (hy : M[j]? = some y) (hij : i < j) : x.1 < y.1 := by
  unfold Srt at h
  rw [List.pairwise_iff_getElem] at h
  obtain ⟨ha, rfl⟩ := List.getElem?_eq_some_iff.1 hx
  obtain ⟨hb, rfl⟩ := List.getElem?_eq_some_iff.1 hy
  exact h i j ha hb hij
theorem find_rev {M : List Pr} (h : Srt M) {k : Nat} {x : Pr} (hx : M[k]? = some x) : ∃ y, (M.find? fun z => z.2 == x.2) = some y ∧ y.2 = x.2 ∧ y.1 ≤ x.1 ∧ (M.find? fun z => decide ((z.1 : Int) = (y.1 : Int))) = some y := by
  have hxm := List.mem_of_getElem? hx
  cases hf : M.find? fun z => z.2 == x.2 with
  | none =>
    have := List.find?_eq_none.1 hf x hxm
    simp at this
  | some y =>
    have hy := List.find?_some hf
    have hym := List.mem_of_find?_eq_some hf
    rw [List.find?_eq_some_iff_getElem] at hf
    obtain ⟨_, i, hi, hiy, hno⟩ := hf
    refine ⟨y, rfl, by simpa using hy, ?_, find_srt (y.1 : Int) _ y h hym rfl⟩
    rcases Nat.lt_trichotomy i k with h1 | h1 | h1
    · have := srt_lt h (by rw [List.getElem?_eq_getElem hi, hiy]) hx h1
      omega
    · subst h1
      rw [List.getElem?_eq_getElem hi, hiy] at hx
      injection hx with hx; subst hx; exact Nat.le_refl _
    · obtain ⟨hk, hkx⟩ := List.getElem?_eq_some_iff.1 hx
      have := hno k h1
      rw [hkx] at this
      simp at this
def BkRel (M : List Pr) (W0 : World) (last i : Value) (wr : World) : Prop := ∃ (k : Nat) (lst : Int), k ≤ M.length ∧ i = .int .i64 k ∧ last = .int .i64 lst ∧ (∀ j x, k ≤ j → M[j]? = some x → lst < (x.1 : Int)) ∧ Below W0.heap.size W0 wr
theorem RunBack_law (l : List Pce) (A : Option Addr) (c : Nat) (hok : ∀ p ∈ l, PceOk p) (w : World) (hT : Tabs w) (h : PcsL w w.heap.size A l) :
    Calls Tryd.prog 6 #[.slice A l.length c] w fun e w' => e = .returned (.bool true) ∧ Below w.heap.size w w' := by
  have HP : Hid (∀ w', Below w.heap.size w w' → (fun e w' => e = Ending.returned (.bool true) ∧ Below w.heap.size w w') (.returned (.bool true)) w') := Lib.hid fun w' hb => ⟨rfl, hb⟩
  generalize (fun (e : Ending) (w' : World) => e = Ending.returned (.bool true) ∧ Below w.heap.size w w') = P at *
  have haw := fun W (hb : Below w.heap.size w W) => awake4 W (Tabs_below hT hb (Nat.le_refl _))
  by_cases hL : LightP l
  · have hLt := law_light (c := c) hL h w (Below.refl _ _)
    have hTb := fun W (hb : Below w.heap.size w W) => Table_any l A c (by have := hL.1; omega) (fun p hp => ⟨hok p hp, by have := (hL.2 p hp).2; omega⟩) W (Tabs_below hT hb (Nat.le_refl _)) ((h.below hb).more hb.size)
    generalize mdL l = M at *
    unfold TbPost at hTb
    clear hok h hL
    go_enter Tryd.func6, Tryd.ntmps6
    go_wp2_with (first
      | (go_at_call 7; refine hLt.mono ?_; rintro e w1 ⟨rfl, hb1⟩; have HB1 := Lib.hid hb1; clear hLt hb1)
      | (go_at_call 18; refine (hTb _ HB1.out).mono ?_; rintro e w2 ⟨A2, c2, rs, rfl, h12, h22, h32, h42, hb2⟩; have HB2 := Lib.hid (HB1.out.trans (hb2.mono HB1.out.size)); clear hTb hb2)
      | (go_at_call 21; refine (Pairs_any A2 c2 rs (by omega) _ ((h32.below ((Below.refl _ _).alloc (Nat.le_refl _) _)).more (by simp))).mono ?_; rintro e w3 ⟨A3, c3, rfl, hc3, hr3, hb3⟩; have HB3 := Lib.hid hb3; have HW3 := Lib.hid (HB2.out.trans ((below_a1 hb3).mono HB2.out.size)); have hr3 : PrsL w3 w3.heap.size A3 (prsT rs) := hr3; have hln : ((rs.map (·.1)).flatMap prs).length = (prsT rs).length := rfl; have H32 := Lib.hid ((h32.below (below_a1 hb3)).more (show w2.heap.size ≤ w3.heap.size by have := hb3.size; simp at this; omega)); rw [hln]; rw [h42] at hr3 ⊢; clear hln; have H42 := Lib.hid h42; have H33 := Lib.hid hr3; clear h32 hb3 hr3 h42; obtain ⟨b0, _, hs3⟩ := bx HB3.out; have a0 := b0 0; clear b0))
    have hS : Hid (Srt M) := Lib.hid (H42.out ▸ prsT_srt H32.out)
    have hG : Hid (∀ x ∈ M, 0 ≤ x.2 ∧ x.2 ≤ 1114111) := Lib.hid fun x hx => prsT_rng H32.out (by rw [H42.out]; exact hx)
    have hal : Hid (∀ wr, Below w3.heap.size w3 wr → TbR wr wr.heap.size A2 rs) := Lib.hid fun wr hb => (H32.out.below hb).more hb.size
    have hrs : rs.length ≤ 35184372089000 := by omega
    have hMl : M.length ≤ 35184372089000 := by
      have h1 := H32.out.total
      have h2 := szR_len rs
      rw [show (rs.map (·.1)).flatMap prs = M from H42.out] at h2
      omega
    go_loopw [4, 22] (fun last i wr => BkRel M w3 last i wr) (fun _ i _ => M.length - (intOf i).toNat)
    case atStart => exact ⟨0, -1, by omega, rfl, rfl, fun j x _ _ => by omega, Below.refl _ _⟩
    case round =>
      obtain ⟨k, lst, hk, rfl, rfl, hls, hb⟩ := hrel
      have hz := hb.size
      by_cases hlt : k < M.length
      · obtain ⟨x, hx⟩ : ∃ x, M[k]? = some x := ⟨_, List.getElem?_eq_getElem hlt⟩
        have hxm := List.mem_of_getElem? hx
        obtain ⟨y, hy1, hy2, hy3, hy4⟩ := find_rev hS.out hx
        have hFx := fw_some (find_srt (x.1 : Int) _ x hS.out hxm rfl)
        have hRv := rv_some (p := x.2) (by have := hG.out x hxm; omega) hy1
        have hFy := fw_some hy4
        rw [hy2] at hFy
        have hl2 : ¬ (x.1 : Int) ≤ lst := by have := hls k x (Nat.le_refl _) hx; omega
        have hnx : Hid (∀ j z, k + 1 ≤ j → M[j]? = some z → (x.1 : Int) < z.1) := Lib.hid fun j z hj hz => by have := srt_lt hS.out hx hz (by omega); omega
        have hc2 : ¬ (x.1 : Int) < (y.1 : Int) := by omega
        obtain ⟨ad, rfl, hadb, z0, z1, _⟩ := (H33.out.below hb).pair hx
        have t0 := (hb.cell (p := ⟨w2.heap.size, 0, none⟩) hs3).trans a0
        have t0' : (wr.alloc (.cells #[.int .i64 (x.1 : Int), .int .i32 x.2] 53)).cell? ⟨w2.heap.size, 0, none⟩ = some (.slice A2 rs.length c2) := by rw [World.cell?_alloc_lt _ _ _ (by show w2.heap.size < wr.heap.size; omega)]; exact t0
        have hbA := hb.alloc hz (.cells #[.int .i64 (x.1 : Int), .int .i32 x.2] 53)
        have hHB : Hid (Below w3.heap.size w3 wr) := Lib.hid hb
        clear hls hy1 hy2 hy4 hx hxm hb
        go_wp2_with (first
          | (go_at_call 14; refine (hRv A2 c2 rs _ H42.out hrs (hal.out _ HW4.out)).mono ?_; rintro e w5 ⟨rfl, hb5⟩; have HB5 := Lib.hid (HB4.out.trans (hb5.mono HB4.out.size)); have HW5 := Lib.hid (HW4.out.trans (hb5.mono HW4.out.size)); clear p0 p1 t4 hb5; obtain ⟨q, _, _⟩ := bx HB5.out; have p0 := q 0; have p1 := q 1; clear q; have t4 := (HW5.out.cell (p := ⟨w2.heap.size, 0, none⟩) hs3).trans a0)
          | (go_at_call 12; first
            | (refine (hFx A2 c2 rs _ H42.out hrs (hal.out _ hbA)).mono ?_; rintro e w4 ⟨rfl, hb4⟩; have HB4 := Lib.hid hb4; have HW4 := Lib.hid (hbA.trans (hb4.mono hbA.size)); clear hb4 hFx hbA; obtain ⟨q, _, _⟩ := bx HB4.out; have p0 := q 0; have p1 := q 1; clear q; have t4 := (HW4.out.cell (p := ⟨w2.heap.size, 0, none⟩) hs3).trans a0)
            | (refine (hFy A2 c2 rs _ H42.out hrs (hal.out _ HW5.out)).mono ?_; rintro e w6 ⟨rfl, hb6⟩; have HB6 := Lib.hid (HB5.out.trans (hb6.mono HB5.out.size)); have HW6 := Lib.hid (HW5.out.trans (hb6.mono HW5.out.size)); clear p0 p1 t4 hb6; obtain ⟨q, _, _⟩ := bx HB6.out; have p0 := q 0; have p1 := q 1; clear q)))
        exact ⟨⟨k + 1, x.1, by omega, by simp, rfl, hnx.out, HW6.out⟩, by simp [intOf]; omega⟩
      · obtain rfl : k = M.length := by omega
        have HB9 := Lib.hid (HW3.out.trans (hb.mono HW3.out.size))
        go_wp2_with (go_at_call 8; refine (haw _ HB9.out).mono ?_; rintro e w4 ⟨rfl, hb4⟩)
        exact HP.out _ (HB9.out.trans (hb4.mono HB9.out.size))
  · have hLt := law_dark (c := c) hL h w (Below.refl _ _)
    go_enter Tryd.func6, Tryd.ntmps6
    go_wp2_with (first
      | (go_at_call 7; refine hLt.mono ?_; rintro e w1 ⟨rfl, hb1⟩)
      | (go_at_call 8; refine (haw _ hb1).mono ?_; rintro e w4 ⟨rfl, hb4⟩))
    exact HP.out _ (hb1.trans (hb4.mono hb1.size))
end Go.Proofs.YtmfnnggnnnagiaaDoor
