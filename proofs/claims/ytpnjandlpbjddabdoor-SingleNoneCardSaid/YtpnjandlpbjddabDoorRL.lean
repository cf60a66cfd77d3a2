/- Contract of a table's Forward; condition: the table's rows stand by rising codes. -/
import Derived.Test.YtpnjandlpbjddabDoorRK
set_option maxRecDepth 100000
set_option maxHeartbeats 4000000
namespace Go.Proofs.YtpnjandlpbjddabDoor
open Go Go.RowKit

theorem bch {w w1 w2 : World} (h1 : Below w.heap.size w w1) (h2 : Below w1.heap.size w1 w2) : Below w.heap.size w w2 := h1.trans (h2.mono h1.size)
/-- What the search's closure reads: the code, the table. -/
def Capt (W : World) (b3 b2 : Nat) (code : Int) (A : Option Addr) (n c : Nat) : Prop := W.cell? ⟨b3, 0, none⟩ = some (.int .i64 code) ∧ W.cell? ⟨b2, 0, none⟩ = some (.slice A n c)
/-- What the regions read, whatever was laid behind it. -/
def FwS (W : World) (b3 b2 : Nat) (code : Int) (ad : Addr) (n c k : Nat) (x : Rw × Sl) (W' : World) : Prop := (W'.cell? ⟨b3, 0, none⟩ = some (.int .i64 code) ∧ W'.cell? ⟨b2, 0, none⟩ = some (.slice (some ad) n c) ∧ W'.cell? (ad.add (k * 4)) = some (.int .i64 (x.1.1 : Int)) ∧ W'.cell? ⟨(ad.add (k * 4)).block, (ad.add (k * 4)).off + 1, none⟩ = some (.int .i64 (x.1.2.1 : Int)) ∧
  W'.cell? ⟨(ad.add (k * 4)).block, (ad.add (k * 4)).off + 2, none⟩ = some (.int .i32 x.1.2.2.1) ∧ W'.cell? ⟨(ad.add (k * 4)).block, (ad.add (k * 4)).off + 3, none⟩ = some (.slice x.2.1 x.2.2.1 x.2.2.2)) ∧ Below W.heap.size W W'
theorem FwS.keep {W : World} {b3 b2 : Nat} {code : Int} {ad : Addr} {n c k : Nat} {x : Rw × Sl} {W' W'' : World} (h : FwS W b3 b2 code ad n c k x W') (hb : Below W'.heap.size W' W'') : FwS W b3 b2 code ad n c k x W'' := by
  obtain ⟨⟨h1, h2, h3, h4, h5, h6⟩, h7⟩ := h
  have hk : ∀ {a : Addr} {v : Value}, W'.cell? a = some v → W''.cell? a = some v := fun {a v} e => (hb.cell (World.block_lt_of_cell? _ _ e)).trans e
  exact ⟨⟨hk h1, hk h2, hk h3, hk h4, hk h5, hk h6⟩, bch h7 hb⟩
theorem Fwd1_any (b3 b2 : Nat) (code : Int) (A : Option Addr) (c : Nat) (rs : List (Rw × Sl)) (B k : Nat) (x : Rw × Sl) (W : World) (hc : Capt W b3 b2 code A rs.length c) (h : TbR W B A rs) (hk : rs[k]? = some x) :
    Calls Tryd.prog 94 #[.int .i64 (k : Int), .pointer (some ⟨b3, 0, none⟩), .pointer (some ⟨b2, 0, none⟩)] W fun e w' => e = .returned (.bool (decide (code < (x.1.1 : Int) + x.1.2.1))) ∧ Below W.heap.size W w' := by
  obtain ⟨c3, c2⟩ := hc
  have hlt : k < rs.length := by
    rcases Nat.lt_or_ge k rs.length with h | h
    · exact h
    · rw [List.getElem?_eq_none h] at hk; cases hk
  obtain ⟨ad, rfl, hadb, y0, y1, y2, y3, hok, _, _⟩ := h.row hk
  have hend := fun v W => End_any x.1.1 x.1.2.1 x.1.2.2.1 v hok.2.1 W
  go_enter Tryd.func94, Tryd.ntmps94
  go_wp2_with fail
  have hS0 : FwS W b3 b2 code ad rs.length c k x W.drew := ⟨⟨c3, c2, y0, y1, y2, y3⟩, (Below.refl _ _).drew⟩
  refine wp_region_lin (FwS W b3 b2 code ad rs.length c k x) [(0, true), (1, true), (2, true), (3, true), (4, true), (5, true), (6, false), (7, true), (8, true)] (by kernel_rfl) (by kernel_rfl) (by kernel_rfl) (Nat.le_of_ble_eq_true rfl) (fun _ _ d _ _ h => by cases d <;> exact h) hS0 ?_
  repeat (first
    | (refine lin_skip rfl (by rfl) ?_; try simp only [Act.put, List.setIfInBounds_toArray, List.set_cons_zero, List.set_cons_succ])
    | (refine' lin_pure rfl (by rfl) _ (fun w' hSw => _) _; rotate_left; (obtain ⟨⟨s1, s2, s3, s4, s5, s6⟩, _⟩ := hSw; go_simp; try with_reducible rfl); try simp only [Act.put, List.setIfInBounds_toArray, List.set_cons_zero, List.set_cons_succ])
    | (refine lin_eff rfl (by rfl) (fun K hK => ?_); go_simp; (go_at_call 40; refine (hend _ _).mono ?_; rintro e w4 ⟨rfl, hb4⟩); go_wp2_with fail; have hS4 := hS0.keep hb4; refine hK.out _ _ hS4 ?_; clear hK K; try simp only [Act.put, List.setIfInBounds_toArray, List.set_cons_zero, List.set_cons_succ]))
  refine lin_nil ?_
  go_wp2_with fail
  go_ret
  exact ⟨rfl, hS4.2⟩
/-- Does a row end behind a code? -/
def endF (rs : List (Rw × Sl)) (code : Int) (k : Nat) : Bool := match rs[k]? with
  | none => true
  | some x => decide (code < (x.1.1 : Int) + x.1.2.1)
theorem endF_mono {w : World} {B : Nat} {A : Option Addr} {rs : List (Rw × Sl)} (h : TbR w B A rs) {code : Int} {a b : Nat} (hab : a ≤ b) (ha : endF rs code a = true) : endF rs code b = true := by
  unfold endF at *
  cases hb : rs[b]? with
  | none => rfl
  | some y =>
    have hlt := (List.getElem?_eq_some_iff.1 hb).1
    have hx : rs[a]? = some rs[a] := List.getElem?_eq_getElem (by omega)
    rw [hx] at ha
    simp only [decide_eq_true_eq] at ha ⊢
    rcases Nat.lt_or_ge a b with h1 | h1
    · have hp := h.2.2.1
      rw [List.pairwise_map, List.pairwise_iff_getElem] at hp
      have := hp a b (by omega) hlt h1
      rw [List.getElem?_eq_getElem hlt] at hb
      injection hb with hb
      subst hb
      omega
    · obtain rfl : a = b := by omega
      rw [hb] at hx; injection hx with hx
      rw [← hx] at ha; exact ha
def ShRel (rs : List (Rw × Sl)) (code : Int) (w0 : World) (i j : Value) (wr : World) : Prop := ∃ lo hi : Nat, lo ≤ hi ∧ hi ≤ rs.length ∧ i = .int .i64 lo ∧ j = .int .i64 hi ∧ (∀ k, k < lo → endF rs code k = false) ∧ endF rs code hi = true ∧ Below w0.heap.size w0 wr
theorem Search_any (b3 b2 : Nat) (code : Int) (A : Option Addr) (c : Nat) (rs : List (Rw × Sl)) (hn : rs.length ≤ 35184372089000) (W : World) (hc : Capt W b3 b2 code A rs.length c) (h : TbR W W.heap.size A rs) :
    Calls Tryd.prog 93 #[.int .i64 rs.length, .func (.func 94) #[] #[.pointer (some ⟨b3, 0, none⟩), .pointer (some ⟨b2, 0, none⟩)]] W fun e w' => ∃ k : Nat, e = .returned (.int .i64 k) ∧ k ≤ rs.length ∧ (∀ j, j < k → endF rs code j = false) ∧ endF rs code k = true ∧ Below W.heap.size W w' := by
  have hend : endF rs code rs.length = true := by unfold endF; rw [List.getElem?_eq_none (Nat.le_refl _)]
  go_enter Tryd.func93, Tryd.ntmps93
  go_wp2_with fail
  go_loopw [5, 6] (fun i j wr => ShRel rs code W i j wr) (fun i j _ => (intOf j).toNat - (intOf i).toNat)
  case atStart => exact ⟨0, rs.length, by omega, Nat.le_refl _, rfl, rfl, (fun k hk => by omega), hend, Below.refl _ _⟩
  case round =>
    obtain ⟨lo, hi, h1, h2, rfl, rfl, h3, h4, hb⟩ := hrel
    have H3 := Lib.hid h3
    have H4 := Lib.hid h4
    clear h3 h4 hend
    by_cases hlt : lo < hi
    · have hmid : (lo + hi) / 2 < hi ∧ lo ≤ (lo + hi) / 2 := by omega
      obtain ⟨m, hm⟩ : ∃ m, m = (lo + hi) / 2 := ⟨_, rfl⟩
      rw [← hm] at hmid
      obtain ⟨x, hx⟩ : ∃ x, rs[m]? = some x := ⟨_, List.getElem?_eq_getElem (by omega)⟩
      have hmi : ((lo : Int) + hi) / 2 = (m : Int) := by omega
      have hcw : Capt wr b3 b2 code A rs.length c := ⟨(hb.cell (World.block_lt_of_cell? _ _ hc.1)).trans hc.1, (hb.cell (World.block_lt_of_cell? _ _ hc.2)).trans hc.2⟩
      have hfw := Fwd1_any b3 b2 code A c rs W.heap.size m x wr hcw (h.below hb) hx
      have hE : endF rs code m = decide (code < (x.1.1 : Int) + x.1.2.1) := by unfold endF; rw [hx]
      rw [← hE] at hfw
      have hz := hb.size
      clear hm
      cases hq : endF rs code m with
      | true =>
        rw [hq] at hfw
        have Hq := Lib.hid hq
        clear hq hE
        go_wp2_with (go_at_call 94; refine hfw.mono ?_; rintro e w1 ⟨rfl, hb1⟩)
        go_roundw
        case rel => exact ⟨lo, m, by omega, by omega, rfl, rfl, H3.out, Hq.out, bch hb hb1⟩
        case measure => simp [intOf]; omega
      | false =>
        rw [hq] at hfw
        have Hq := Lib.hid hq
        clear hq hE
        go_wp2_with (go_at_call 94; refine hfw.mono ?_; rintro e w1 ⟨rfl, hb1⟩)
        go_roundw
        case rel =>
          refine ⟨m + 1, hi, by omega, by omega, by simp, rfl, fun k hk => ?_, H4.out, bch hb hb1⟩
          cases hk2 : endF rs code k with
          | false => rfl
          | true =>
            have := endF_mono h (a := k) (b := m) (by omega) hk2
            rw [Hq.out] at this; cases this
        case measure => simp [intOf]; omega
    · obtain rfl : lo = hi := by omega
      go_wp2_with fail
      go_ret
      exact ⟨lo, rfl, h2, H3.out, H4.out, hb⟩
/-- The sign of a code. -/
def fwdR (rs : List Rw) (code : Int) : Option Int := ((rs.flatMap prs).find? fun x => decide ((x.1 : Int) = code)).map (·.2)
end Go.Proofs.YtpnjandlpbjddabDoor
