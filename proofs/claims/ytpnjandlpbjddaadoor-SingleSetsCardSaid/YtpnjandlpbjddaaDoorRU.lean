/- What New makes, as a table with the document's pairs; contracts of the law's table, Is. -/
import Derived.Test.YtpnjandlpbjddaaDoorRT
set_option maxRecDepth 100000
set_option maxHeartbeats 4000000
namespace Go.Proofs.YtpnjandlpbjddaaDoor
open Go Go.RowKit

theorem newF_len : ∀ (l : List Pce) (acc rs : List Rw) (i : Nat), newF acc l i = .inl rs → rs.length ≤ acc.length + l.length
  | [], acc, rs, i, h => by
    unfold newF at h
    injection h with h; subst h; simp
  | p :: l, acc, rs, i, h => by
    unfold newF at h
    split at h
    · cases h
    · split at h
      · cases h
      · have := newF_len l _ _ _ h
        simp at this ⊢
        omega
theorem TbR.nil (w : World) (B : Nat) : TbR w B none [] := ⟨⟨Reads.none_, fun ad h => by cases h⟩, fun x hx => by simp at hx, by simp [RowsOk]⟩
def ftE (l : List Pce) : Int := match madeF [] l 0 with
  | .inl _ => 0
  | .inr _ => 5
def ftA (l : List Pce) : Int := match madeF [] l 0 with
  | .inl _ => 0
  | .inr k => (k : Int)
def NtPost (l : List Pce) (w0 : World) (e : Ending) (w' : World) : Prop := ∃ A c rs, e = .returned (.tuple #[.agg #[.slice A rs.length c], .agg #[.int .i64 (ftE l), .int .i64 (ftA l)]]) ∧ rs.length ≤ c ∧ rs.length ≤ 4096 ∧ TbR w' w'.heap.size A rs ∧ prsT rs = mdL l ∧ Below w0.heap.size w0 w'
theorem New_tb (l : List Pce) (A : Option Addr) (c : Nat) (hl : l.length ≤ 4096) (hok : ∀ p ∈ l, PceOk p ∧ p.2.2.2.1.size ≤ 1000000) (w : World) (hT : Tabs w) (hA : PcsL w w.heap.size A l) :
    Calls Tryd.prog 32 #[.slice A l.length c] w (NtPost l w) := by
  refine (New_any l A c hl hok w hT hA).mono ?_
  rintro e w' ⟨h, hb⟩
  unfold NtPost ftE ftA mdL
  rcases new_made l [] [] 0 (fun p hp => (hok p hp).1) told_nil with ⟨rs', M, h1, h2, h3⟩ | ⟨k, h1, h2⟩
  · rw [h2]
    rcases h with ⟨A2, c2, rs, ⟨rs0, h4, h5, h6⟩, h7, h8, h9, rfl⟩ | ⟨k, h4, _⟩
    · rw [h4] at h1; injection h1 with h1
      obtain ⟨hro, hpr⟩ := told_sorted (rs' := rs.map (·.1)) h3 (by rw [← h1]; exact h5.map _) (by rw [List.pairwise_map]; exact h6)
      have hlen := newF_len l _ _ _ h4
      rw [List.length_map] at hlen
      simp only [List.length_nil, Nat.zero_add] at hlen
      exact ⟨A2, c2, rs, rfl, h7, by have := h5.length_eq; omega, ⟨h8, fun x hx => h9 x hx, hro⟩, hpr, hb⟩
    · rw [h4] at h1; cases h1
  · rw [h2]
    rcases h with ⟨A2, c2, rs, ⟨rs0, h4, h5, h6⟩, h7, h8, h9, rfl⟩ | ⟨k2, h4, rfl⟩
    · rw [h4] at h1; cases h1
    · rw [h4] at h1; injection h1 with h1; subst h1
      exact ⟨none, 0, [], rfl, Nat.le_refl _, by simp, TbR.nil _ _, rfl, hb⟩
theorem TbR.set1 {w : World} {B g : Nat} {A A0 : Option Addr} {n0 c0 : Nat} {rs : List (Rw × Sl)} {T : TypeId} (h : TbR w B A rs) (hg : w.heap[g]? = some (.cells #[.slice A0 n0 c0] T (0, 0))) (hT : T ≠ 21) (v : Value) : TbR (w.setCell ⟨g, 0, none⟩ v) B A rs := by
  refine ⟨⟨⟨h.1.1.1, fun h0 => ?_⟩, h.1.2⟩, fun x hx => ⟨(h.2.1 x hx).1, sg_set1 (h.2.1 x hx).2 v hg hT⟩, h.2.2⟩
  obtain ⟨x, hx⟩ : ∃ x, rs[0]? = some x := ⟨_, List.getElem?_eq_getElem h0⟩
  obtain ⟨ad', hA', _, hc', _⟩ := h.row hx
  obtain ⟨ad, hA, hb, hc⟩ := h.1.1.2 h0
  rw [hA] at hA'; injection hA' with hA'; subst hA'
  have hsp := h.1.2 ad hA
  refine ⟨ad, hA, hb, fun j u hu => ?_⟩
  have hbk : ad.block ≠ g := by
    rintro rfl
    rw [sg_cell hsp hg] at hc'
    rcases hi : ad.off + 0 * 4 with _ | i
    · rw [hi] at hc'; simp at hc'
    · rw [hi] at hc'; simp at hc'
  rw [cell_set (by rw [block_of_add]; exact hbk)]
  exact hc j u hu
/-- A table with these pairs, as a value. -/
def TbPost (L : List Pr) (w0 : World) (e : Ending) (w' : World) : Prop := ∃ A c rs, e = .returned (.agg #[.slice A rs.length c]) ∧ rs.length ≤ c ∧ rs.length ≤ 4096 ∧ TbR w' w'.heap.size A rs ∧ prsT rs = L ∧ Below w0.heap.size w0 w'
/-- Has the table just these pairs. -/
def IsRel (L : List Pr) (base : Nat) (w0 : World) (i : Value) (wr : World) : Prop := ∃ k : Nat, k ≤ L.length ∧ i = .int .i64 k ∧ Below base w0 wr ∧ base ≤ wr.heap.size
theorem Is_any (A A2 : Option Addr) (c c2 : Nat) (rs : List (Rw × Sl)) (L : List Pr) (hL : prsT rs = L) (hn : rs.length ≤ 35184372089000) (w : World) (h : TbR w w.heap.size A rs) (h2 : PrsL w w.heap.size A2 L) :
    Calls Tryd.prog 10 #[.agg #[.slice A rs.length c], .slice A2 L.length c2] w fun e w' => e = .returned (.bool true) ∧ Below w.heap.size w w' := by
  have hsz : szR rs = L.length := by rw [← hL]; exact (szR_len rs).symm
  have hln := h.total
  rw [hsz] at hln
  have HP : Hid (∀ w', Below w.heap.size w w' → (fun e w' => e = Ending.returned (.bool true) ∧ Below w.heap.size w w') (.returned (.bool true)) w') := Lib.hid fun w' hb => ⟨rfl, hb⟩
  generalize (fun (e : Ending) (w' : World) => e = Ending.returned (.bool true) ∧ Below w.heap.size w w') = P at *
  have hpa := fun w1 (hb : Below w.heap.size w w1) => Pairs_any A c rs hn w1 ((h.below hb).more hb.size)
  have hsi := fun w1 (hb : Below w.heap.size w w1) => Size_any A c rs hn w1 ((h.below hb).more hb.size)
  rw [show (rs.map (·.1)).flatMap prs = L from hL] at hpa
  rw [hsz] at hsi
  unfold PaPost at hpa
  have hb0 : ∀ o, Below w.heap.size w (w.alloc o) := fun o => (Below.refl _ w).alloc (Nat.le_refl _) o
  clear hsz
  go_enter Tryd.func10, Tryd.ntmps10
  go_wp2_with (first | (go_at_call 25; refine (hpa _ (hb0 _)).mono ?_; rintro e w3 ⟨A3, c3, rfl, hc3, hr3, hb3⟩; have hr3 : PrsL w3 w3.heap.size A3 L := hr3; have Hr3 := Lib.hid hr3; have HB3 := Lib.hid (below_a1 hb3); clear hr3; obtain ⟨b0, _, _⟩ := bx hb3; have d0 := b0 0) | (go_at_call 8; refine (hsi _ HB3.out).mono ?_; rintro e w4 ⟨rfl, hb4⟩; have HB4 := Lib.hid (HB3.out.trans (hb4.mono HB3.out.size)); have Hr4 := Lib.hid ((Hr3.out.below hb4).more hb4.size)))
  have Hn2 := Lib.hid (h2.below HB4.out)
  have hz4 := HB4.out.size
  clear h2 hpa hsi
  go_loopw [24] (fun i wr => IsRel L w4.heap.size w4 i wr) (fun i _ => L.length - (intOf i).toNat)
  case atStart => exact ⟨0, by omega, rfl, Below.refl _ _, Nat.le_refl _⟩
  case round =>
    obtain ⟨k, hk, rfl, hb, hbs⟩ := hrel
    have HBt := Lib.hid (HB4.out.trans (hb.mono hz4))
    by_cases hlt : k < L.length
    · obtain ⟨x, hx⟩ : ∃ x, L[k]? = some x := ⟨_, List.getElem?_eq_getElem hlt⟩
      obtain ⟨ad, rfl, hadb, y0, y1, _⟩ := (Hr4.out.below hb).pair hx
      obtain ⟨ad2, rfl, hadb2, z0, z1, _⟩ := (Hn2.out.below (hb.mono hz4)).pair hx
      have hd : decide ((x.1 : Int) = (x.1 : Int)) = true := by simp
      go_wp2_with fail
      obtain ⟨W, hW⟩ : ∃ W, W = wr.alloc (.cells #[.int .i64 (x.1 : Int), .int .i32 x.2] 61) := ⟨_, rfl⟩
      have q0 : W.cell? ⟨wr.heap.size, 0, none⟩ = some (.int .i64 (x.1 : Int)) := by rw [hW, cell_of_row _ wr.heap.size 0 _ _ _ (heap_alloc_new wr _)]; rfl
      have q1 : W.cell? ⟨wr.heap.size, 1, none⟩ = some (.int .i32 x.2) := by rw [hW, cell_of_row _ wr.heap.size 1 _ _ _ (heap_alloc_new wr _)]; rfl
      have q2 : W.cell? (ad2.add (k * 2)) = some (.int .i64 (x.1 : Int)) := by rw [hW, World.cell?_alloc_lt _ _ _ (by rw [block_of_add]; omega)]; exact z0
      have q3 : W.cell? ⟨(ad2.add (k * 2)).block, (ad2.add (k * 2)).off + 1, none⟩ = some (.int .i32 x.2) := by rw [hW]; exact (((Below.refl _ wr).alloc (Nat.le_refl _) _).cell (p := ⟨(ad2.add (k * 2)).block, (ad2.add (k * 2)).off + 1, none⟩) (show (ad2.add (k * 2)).block < _ by rw [block_of_add]; omega)).trans z1
      have HBW : Hid (Below w4.heap.size w4 W) := Lib.hid (by rw [hW]; exact hb.alloc hbs _)
      have hWs : wr.heap.size < W.heap.size := by rw [hW]; simp
      rw [← hW]
      clear hW y0 y1 z0 z1
      go_quiet (fail)
      go_wp2_with fail
      exact ⟨⟨k + 1, by omega, by simp, below_drewN HBW.out _, show _ ≤ W.heap.size by omega⟩, by simp [intOf]; omega⟩
    · obtain rfl : k = L.length := by omega
      go_wp2_with fail
      exact HP.out _ HBt.out
end Go.Proofs.YtpnjandlpbjddaaDoor
