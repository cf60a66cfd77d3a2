/- Contracts of a table's Size and Reverse; condition: the table's rows stand by rising codes. -/
import Derived.Test.YtpnjandlpbjddabDoorRI
set_option maxRecDepth 100000
set_option maxHeartbeats 2000000
namespace Go.Proofs.YtpnjandlpbjddabDoor
open Go Go.RowKit

/-- A table's rows, as they lie below a block. -/
def TbR (w : World) (B : Nat) (A : Option Addr) (rs : List (Rw × Sl)) : Prop := RdsR w B A rs ∧ (∀ x ∈ rs, RwOk x.1 ∧ SgOk w B x) ∧ RowsOk (rs.map (·.1))
theorem TbR.below {w w' : World} {B : Nat} {A : Option Addr} {rs : List (Rw × Sl)} (h : TbR w B A rs) (hb : Below B w w') : TbR w' B A rs := by
  obtain ⟨⟨h1, h2⟩, h3, h4⟩ := h
  exact ⟨⟨h1.below hb, h2⟩, fun x hx => ⟨(h3 x hx).1, (h3 x hx).2.below hb⟩, h4⟩
theorem TbR.more {w : World} {B B' : Nat} {A : Option Addr} {rs : List (Rw × Sl)} (h : TbR w B A rs) (hb : B ≤ B') : TbR w B' A rs := by
  obtain ⟨⟨h1, h2⟩, h3, h4⟩ := h
  exact ⟨⟨h1.more hb, h2⟩, fun x hx => ⟨(h3 x hx).1, (h3 x hx).2.more hb⟩, h4⟩
theorem add_more (ad : Addr) (k i : Nat) (hi : i ≠ 0) : ad.add (k + i) = ⟨(ad.add k).block, (ad.add k).off + i, none⟩ := by
  rw [← addr_add]
  show (if i = 0 then _ else _) = _
  rw [if_neg hi]
theorem TbR.row {w : World} {B : Nat} {A : Option Addr} {rs : List (Rw × Sl)} (h : TbR w B A rs) {k : Nat} {x : Rw × Sl} (hk : rs[k]? = some x) :
    ∃ ad, A = some ad ∧ ad.block < B ∧ w.cell? (ad.add (k * 4)) = some (.int .i64 (x.1.1 : Int)) ∧ w.cell? ⟨(ad.add (k * 4)).block, (ad.add (k * 4)).off + 1, none⟩ = some (.int .i64 (x.1.2.1 : Int)) ∧
      w.cell? ⟨(ad.add (k * 4)).block, (ad.add (k * 4)).off + 2, none⟩ = some (.int .i32 x.1.2.2.1) ∧ w.cell? ⟨(ad.add (k * 4)).block, (ad.add (k * 4)).off + 3, none⟩ = some (.slice x.2.1 x.2.2.1 x.2.2.2) ∧ RwOk x.1 ∧ SgOk w B x ∧ x ∈ rs := by
  obtain ⟨⟨⟨_, h1⟩, _⟩, h3, _⟩ := h
  have hlt : k < rs.length := by
    rcases Nat.lt_or_ge k rs.length with h | h
    · exact h
    · rw [List.getElem?_eq_none h] at hk; cases hk
  obtain ⟨ad, hA, hb, hc⟩ := h1 (by omega)
  have hx := List.mem_of_getElem? hk
  have hg : ∀ i u, (rV x)[i]? = some u → i < 4 → w.cell? (ad.add (k * 4 + i)) = some u := fun i u hu hi => hc _ _ ((flat4_at rV rV_len rs k i x hk hi).trans hu)
  have g0 := hg 0 _ rfl (by omega)
  have g1 := hg 1 _ rfl (by omega)
  have g2 := hg 2 _ rfl (by omega)
  have g3 := hg 3 _ rfl (by omega)
  rw [Nat.add_zero] at g0
  rw [add_more _ _ _ (by omega)] at g1 g2 g3
  exact ⟨ad, hA, hb, g0, g1, g2, g3, (h3 x hx).1, (h3 x hx).2, hx⟩
def szR (rs : List (Rw × Sl)) : Nat := (rs.map fun x : Rw × Sl => x.1.2.1).sum
theorem szR_snoc (rs : List (Rw × Sl)) (k : Nat) (x : Rw × Sl) (h : rs[k]? = some x) : szR (rs.take (k + 1)) = szR (rs.take k) + x.1.2.1 := by
  unfold szR
  rw [List.take_add_one, h]
  simp
theorem sum_le : ∀ (rs : List (Rw × Sl)) (lo : Nat), lo ≤ 1048576 → (∀ x ∈ rs, lo ≤ x.1.1) → (rs.map (·.1)).Pairwise (fun a b => a.1 + a.2.1 ≤ b.1) → (∀ x ∈ rs, x.1.1 + x.1.2.1 ≤ 1048576) → lo + szR rs ≤ 1048576
  | [], lo, h, _, _, _ => by simpa [szR] using h
  | x :: rs, lo, h, h1, h2, h3 => by
    rw [List.map_cons, List.pairwise_cons] at h2
    have h4 := h3 x (by simp)
    have h5 := h1 x (by simp)
    have := sum_le rs (x.1.1 + x.1.2.1) h4 (fun y hy => h2.1 _ (List.mem_map_of_mem hy)) h2.2 (fun y hy => h3 y (by simp [hy]))
    have e : szR (x :: rs) = x.1.2.1 + szR rs := by simp [szR]
    omega
theorem TbR.total {w : World} {B : Nat} {A : Option Addr} {rs : List (Rw × Sl)} (h : TbR w B A rs) : szR rs ≤ 1048576 := by
  have := sum_le rs 0 (by omega) (fun _ _ => Nat.zero_le _) h.2.2.1 (fun x hx => (h.2.1 x hx).1.2.1)
  omega
theorem szR_take (rs : List (Rw × Sl)) (k : Nat) : szR (rs.take k) ≤ szR rs := by
  unfold szR
  conv => rhs; rw [← List.take_append_drop k rs]
  rw [List.map_append, List.sum_append]; omega
theorem szR_len (rs : List (Rw × Sl)) : ((rs.map (·.1)).flatMap prs).length = szR rs := by
  unfold szR
  induction rs with
  | nil => rfl
  | cons x rs ih => rw [List.map_cons, List.flatMap_cons, List.length_append, prs_len, ih]; simp
def SzRel (rs : List (Rw × Sl)) (w0 : World) (v i : Value) (wr : World) : Prop := ∃ k : Nat, k ≤ rs.length ∧ i = .int .i64 k ∧ v = .int .i64 (szR (rs.take k) : Nat) ∧ Below w0.heap.size w0 wr
theorem Size_any (A : Option Addr) (c : Nat) (rs : List (Rw × Sl)) (hn : rs.length ≤ 35184372089000) (w : World) (h : TbR w w.heap.size A rs) :
    Calls Tryd.prog 39 #[.agg #[.slice A rs.length c]] w fun e w' => e = .returned (.int .i64 (szR rs : Nat)) ∧ Below w.heap.size w w' := by
  have htot := h.total
  go_enter Tryd.func39, Tryd.ntmps39
  go_wp2_with fail
  go_loopw [3, 9] (fun v i wr => SzRel rs w v i wr) (fun _ i _ => rs.length - (intOf i).toNat)
  case atStart => exact ⟨0, by omega, rfl, rfl, (Below.refl _ w).alloc (Nat.le_refl _) _⟩
  case round =>
    obtain ⟨k, hk, rfl, rfl, hb⟩ := hrel
    by_cases hlt : k < rs.length
    · obtain ⟨x, hx⟩ : ∃ x, rs[k]? = some x := ⟨_, List.getElem?_eq_getElem hlt⟩
      obtain ⟨ad, rfl, hadb, y0, y1, y2, y3, hok, _, _⟩ := (h.below hb).row hx
      have hz := hb.size
      have hs := szR_snoc rs k x hx
      have hle := szR_take rs (k + 1)
      have e1 : IntKind.i64.wrap ((szR (rs.take k) : Nat) + (x.1.2.1 : Int)) = ((szR (rs.take (k + 1)) : Nat) : Int) := by rw [hs, IntWalk.i64_in _ (by omega)]; simp
      clear hs
      generalize hq : szR (rs.take (k + 1)) = s' at e1
      have Hq := Lib.hid hq
      clear hq hle
      generalize szR (rs.take k) = s at *
      go_wp2_with fail
      go_roundw
      case rel => exact ⟨k + 1, by omega, by simp, by rw [Hq.out], hb.alloc (by omega) _⟩
      case measure => simp [intOf]; omega
    · obtain rfl : k = rs.length := by omega
      rw [List.take_length]
      go_wp2_with fail
      go_ret
      exact ⟨rfl, hb⟩
def revR (rs : List Rw) (p : Int) : Option Nat := rs.findSome? fun r => lst r p
theorem revR_eq (rs : List Rw) (p : Int) : revR rs p = ((rs.flatMap prs).find? fun x => x.2 == p).map (·.1) := by
  unfold revR lst
  rw [List.find?_flatMap]
  induction rs with
  | nil => rfl
  | cons r rs ih =>
    rw [List.findSome?_cons, List.findSome?_cons]
    cases (prs r).find? fun x => x.2 == p with
    | none => simpa using ih
    | some x => rfl
def RvRel (rs : List (Rw × Sl)) (p : Int) (w0 : World) (i : Value) (wr : World) : Prop := ∃ k : Nat, k ≤ rs.length ∧ i = .int .i64 k ∧ revR (rs.map (·.1)) p = revR ((rs.drop k).map (·.1)) p ∧ Below w0.heap.size w0 wr
theorem Reverse_any (A : Option Addr) (c : Nat) (rs : List (Rw × Sl)) (p : Int) (hp : -2147483648 ≤ p ∧ p < 2147483648) (hn : rs.length ≤ 35184372089000) (w : World) (h : TbR w w.heap.size A rs) :
    Calls Tryd.prog 60 #[.agg #[.slice A rs.length c], .int .i32 p] w fun e w' => e = .returned (.tuple #[.int .i64 ((revR (rs.map (·.1)) p).getD 0 : Nat), .bool (revR (rs.map (·.1)) p).isSome]) ∧ Below w.heap.size w w' := by
  go_enter Tryd.func60, Tryd.ntmps60
  go_wp2_with fail
  go_loopw [13] (fun i wr => RvRel rs p w i wr) (fun i _ => rs.length - (intOf i).toNat)
  case atStart => exact ⟨0, by omega, rfl, by simp, (Below.refl _ w).alloc (Nat.le_refl _) _⟩
  case round =>
    obtain ⟨k, hk, rfl, hrv, hb⟩ := hrel
    have hz := hb.size
    by_cases hlt : k < rs.length
    · obtain ⟨x, hx⟩ : ∃ x, rs[k]? = some x := ⟨_, List.getElem?_eq_getElem hlt⟩
      obtain ⟨ad, rfl, hadb, y0, y1, y2, y3, hok, hsg, _⟩ := (h.below hb).row hx
      have hdk : rs.drop k = x :: rs.drop (k + 1) := by
        obtain ⟨h1, h2⟩ := List.getElem?_eq_some_iff.1 hx
        rw [List.drop_eq_getElem_cons h1, h2]
      rw [hdk, List.map_cons] at hrv
      unfold revR at hrv
      rw [List.findSome?_cons] at hrv
      have hcd := fun (o : Obj) => Code_any x p hp hok (wr.alloc o) (((hsg.more hz).below ((Below.refl _ _).alloc (Nat.le_refl _) o)).more (by simp))
      unfold CdPost rV slV at hcd
      cases hl : lst x.1 p with
      | none =>
        rw [hl] at hrv hcd
        have Hrv := Lib.hid hrv
        clear hrv hdk hl
        go_wp2_with (go_at_call 92; refine (hcd _).mono ?_; rintro e w1 ⟨z, rfl, _, hb1⟩)
        go_roundw
        case rel => exact ⟨k + 1, by omega, by simp, Hrv.out, hb.trans ((below_a1 hb1).mono (by omega))⟩
        case measure => simp [intOf]; omega
      | some v =>
        rw [hl] at hrv hcd
        have Hrv := Lib.hid (show revR (rs.map (·.1)) p = some v from hrv)
        clear hrv hdk hl
        go_wp2_with (go_at_call 92; refine (hcd _).mono ?_; rintro e w1 ⟨z, rfl, hz2, hb1⟩; obtain rfl := hz2 v rfl)
        go_ret2
        rw [Hrv.out]
        exact ⟨rfl, hb.trans ((below_a1 hb1).mono (by omega))⟩
    · obtain rfl : k = rs.length := by omega
      rw [List.drop_length] at hrv
      have Hrv := Lib.hid (show revR (rs.map (·.1)) p = none from hrv)
      clear hrv
      go_wp2_with fail
      go_ret2
      rw [Hrv.out]
      exact ⟨rfl, hb⟩
end Go.Proofs.YtpnjandlpbjddabDoor
