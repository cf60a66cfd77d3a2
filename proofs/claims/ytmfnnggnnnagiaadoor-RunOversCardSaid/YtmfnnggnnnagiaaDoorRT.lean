/- Contracts of the law's Light, made, table, Is; what New makes, as a table with the document's pairs. -/
import Derived.Test.YtmfnnggnnnagiaaDoorRS
set_option maxRecDepth 100000
set_option maxHeartbeats 4000000
namespace Go.Proofs.YtmfnnggnnnagiaaDoor
open Go Go.RowKit

def PcsL (w : World) (B : Nat) (A : Option Addr) (l : List Pce) : Prop := Reads w B 4 A l.length (l.flatMap pV)
theorem PcsL.below {w w' : World} {B : Nat} {A : Option Addr} {l : List Pce} (h : PcsL w B A l) (hb : Below B w w') : PcsL w' B A l := Reads.below h hb
theorem PcsL.more {w : World} {B B' : Nat} {A : Option Addr} {l : List Pce} (h : PcsL w B A l) (hb : B ≤ B') : PcsL w B' A l := Reads.more h hb
theorem PcsL.piece {w : World} {B : Nat} {A : Option Addr} {l : List Pce} (h : PcsL w B A l) {k : Nat} {p : Pce} (hk : l[k]? = some p) :
    ∃ ad, A = some ad ∧ ad.block < B ∧ w.cell? (ad.add (k * 4)) = some (.int .i64 p.1) ∧ w.cell? ⟨(ad.add (k * 4)).block, (ad.add (k * 4)).off + 1, none⟩ = some (.int .i32 p.2.1) ∧
      w.cell? ⟨(ad.add (k * 4)).block, (ad.add (k * 4)).off + 2, none⟩ = some (.int .i64 p.2.2.1) ∧ w.cell? ⟨(ad.add (k * 4)).block, (ad.add (k * 4)).off + 3, none⟩ = some (.string p.2.2.2.1) := by
  have hlt : k < l.length := (List.getElem?_eq_some_iff.1 hk).1
  obtain ⟨ad, hA, hb, hc⟩ := h.2 (by omega)
  have hg : ∀ i u, (pV p)[i]? = some u → i < 4 → w.cell? (ad.add (k * 4 + i)) = some u := fun i u hu hi => hc _ _ ((flat4_at pV pV_len l k i p hk hi).trans hu)
  have g0 := hg 0 _ rfl (by omega)
  have g1 := hg 1 _ rfl (by omega)
  have g2 := hg 2 _ rfl (by omega)
  have g3 := hg 3 _ rfl (by omega)
  rw [Nat.add_zero] at g0
  rw [add_more _ _ _ (by omega)] at g1 g2 g3
  exact ⟨ad, hA, hb, g0, g1, g2, g3⟩
/-- Pieces that aren't many, nor great. -/
def LightP (l : List Pce) : Prop := l.length ≤ 12 ∧ ∀ p ∈ l, p.2.2.1 ≤ 100 ∧ p.2.2.2.1.size ≤ 300
instance (l : List Pce) : Decidable (LightP l) := by unfold LightP; exact inferInstance
def LtRel (l : List Pce) (w0 : World) (i : Value) (wr : World) : Prop := ∃ k : Nat, k ≤ l.length ∧ i = .int .i64 k ∧ (∀ p ∈ l.take k, p.2.2.1 ≤ 100 ∧ p.2.2.2.1.size ≤ 300) ∧ Below w0.heap.size w0 wr
theorem Light_any (A : Option Addr) (c : Nat) (l : List Pce) (w : World) (h : PcsL w w.heap.size A l) :
    Calls Tryd.prog 7 #[.slice A l.length c] w fun e w' => e = .returned (.bool (decide (LightP l))) ∧ Below w.heap.size w w' := by
  have HP : Hid (∀ b w', b = decide (LightP l) → Below w.heap.size w w' → (fun e w' => e = Ending.returned (.bool (decide (LightP l))) ∧ Below w.heap.size w w') (.returned (.bool b)) w') := Lib.hid fun b w' hb h => ⟨by rw [hb], h⟩
  generalize (fun (e : Ending) (w' : World) => e = Ending.returned (.bool (decide (LightP l))) ∧ Below w.heap.size w w') = P at *
  by_cases hn : l.length ≤ 12
  · have hn2 : ¬ (12 : Int) < l.length := by omega
    go_enter Tryd.func7, Tryd.ntmps7
    go_wp2_with fail
    go_loopw [10] (fun i wr => LtRel l w i wr) (fun i _ => l.length - (intOf i).toNat)
    case atStart => exact ⟨0, by omega, rfl, by simp, Below.refl _ w⟩
    case round =>
      obtain ⟨k, hk, rfl, hno, hb⟩ := hrel
      have hz := hb.size
      by_cases hlt : k < l.length
      · obtain ⟨p, hp⟩ : ∃ p, l[k]? = some p := ⟨_, List.getElem?_eq_getElem hlt⟩
        obtain ⟨ad, rfl, hadb, y0, y1, y2, y3⟩ := (h.below hb).piece hp
        have hmem := List.mem_of_getElem? hp
        have Hno := Lib.hid hno
        clear hno
        by_cases h1 : p.2.2.1 ≤ 100
        · have h1' : ¬ 100 < p.2.2.1 := by omega
          by_cases h2 : p.2.2.2.1.size ≤ 300
          · have h2' : ¬ (300 : Int) < p.2.2.2.1.size := by omega
            go_wp2_with fail
            refine ⟨⟨k + 1, by omega, by simp, fun q hq => ?_, hb.alloc hz _⟩, by simp [intOf]; omega⟩
            rw [take_snoc hp] at hq
            rcases List.mem_append.1 hq with hq | hq
            · exact Hno.out q hq
            · simp only [List.mem_singleton] at hq; subst hq; exact ⟨h1, h2⟩
          · have h2' : (300 : Int) < p.2.2.2.1.size := by omega
            go_wp2_with fail
            exact HP.out false _ (decide_eq_false fun hL => by have := (hL.2 p hmem).2; omega).symm (hb.alloc hz _)
        · have h1' : 100 < p.2.2.1 := by omega
          go_wp2_with fail
          exact HP.out false _ (decide_eq_false fun hL => by have := (hL.2 p hmem).1; omega).symm (hb.alloc hz _)
      · obtain rfl : k = l.length := by omega
        rw [List.take_length] at hno
        have Hno := Lib.hid hno
        clear hno
        go_wp2_with fail
        exact HP.out true _ (decide_eq_true ⟨hn, Hno.out⟩).symm hb
  · have hn2 : (12 : Int) < l.length := by omega
    go_enter Tryd.func7, Tryd.ntmps7
    go_wp2_with fail
    exact HP.out false _ (decide_eq_false fun hL => hn hL.1).symm (Below.refl _ _)
theorem RPiece_none {p : Pce} (hr : rowOf p = none) (hp : PceOk p) (hs : p.2.2.2.1.size ≤ 1000000) (w : World) :
    Calls Tryd.prog 26 #[.int .i64 p.1, .int .i32 p.2.1, .int .i64 p.2.2.1, .string p.2.2.2.1] w fun e w' => e = .returned (.tuple #[.slice none 0 0, .bool false]) ∧ Below w.heap.size w w' := by
  refine (RPiece_any p hp hs w).mono ?_
  rintro e w' ⟨h, hb⟩
  rw [hr] at h
  exact ⟨h, hb⟩
theorem RPiece_some {p : Pce} {r : Rw} (hr : rowOf p = some r) (hp : PceOk p) (hs : p.2.2.2.1.size ≤ 1000000) (w : World) :
    Calls Tryd.prog 26 #[.int .i64 p.1, .int .i32 p.2.1, .int .i64 p.2.2.1, .string p.2.2.2.1] w fun e w' => ∃ A c, e = .returned (.tuple #[.slice A (prs r).length c, .bool true]) ∧ (prs r).length ≤ c ∧ PrsL w' w'.heap.size A (prs r) ∧ Below w.heap.size w w' := by
  refine (RPiece_any p hp hs w).mono ?_
  rintro e w' ⟨h, hb⟩
  rw [hr] at h
  obtain ⟨A, c, h1, h2, h3⟩ := h
  exact ⟨A, c, h1, h2, h3, hb⟩
theorem RJoin_none {l more : List Pr} (hj : joinL l more = none) (A1 A2 : Option Addr) (c1 c2 : Nat) (hc1 : l.length ≤ c1) (hn : l.length + more.length ≤ 8388608) (w : World) (h1 : PrsL w w.heap.size A1 l) (h2 : PrsL w w.heap.size A2 more) :
    Calls Tryd.prog 27 #[.slice A1 l.length c1, .slice A2 more.length c2] w fun e w' => e = .returned (.tuple #[.slice none 0 0, .bool false]) ∧ Below w.heap.size w w' := by
  refine (RJoin_any A1 A2 c1 c2 l more hc1 hn w h1 h2).mono ?_
  rintro e w' ⟨h, hb⟩
  rw [hj] at h
  exact ⟨h, hb⟩
theorem RJoin_some {l more L : List Pr} (hj : joinL l more = some L) (A1 A2 : Option Addr) (c1 c2 : Nat) (hc1 : l.length ≤ c1) (hn : l.length + more.length ≤ 8388608) (w : World) (h1 : PrsL w w.heap.size A1 l) (h2 : PrsL w w.heap.size A2 more) :
    Calls Tryd.prog 27 #[.slice A1 l.length c1, .slice A2 more.length c2] w fun e w' => ∃ A c, e = .returned (.tuple #[.slice A L.length c, .bool true]) ∧ L.length ≤ c ∧ PrsL w' w'.heap.size A L ∧ Below w.heap.size w w' := by
  refine (RJoin_any A1 A2 c1 c2 l more hc1 hn w h1 h2).mono ?_
  rintro e w' ⟨h, hb⟩
  rw [hj] at h
  obtain ⟨A, c, h1, h2, h3⟩ := h
  exact ⟨A, c, h1, h2, h3, hb⟩
def mdL (l : List Pce) : List Pr := match madeF [] l 0 with
  | .inl M => M
  | .inr _ => []
def mdAt (l : List Pce) : Int := match madeF [] l 0 with
  | .inl _ => -1
  | .inr k => (k : Int)
def MdPost (l : List Pce) (w0 : World) (e : Ending) (w' : World) : Prop := ∃ A c, e = .returned (.tuple #[.slice A (mdL l).length c, .int .i64 (mdAt l)]) ∧ (mdL l).length ≤ c ∧ PrsL w' w'.heap.size A (mdL l) ∧ Below w0.heap.size w0 w'
def MdRel (l : List Pce) (w0 : World) (v i : Value) (wr : World) : Prop := ∃ (k : Nat) (A : Option Addr) (c : Nat) (L : List Pr), k ≤ l.length ∧ i = .int .i64 k ∧ v = .slice A L.length c ∧ L.length ≤ c ∧ madeF [] l 0 = madeF L (l.drop k) k ∧ L.length ≤ 300 * k ∧ PrsL wr wr.heap.size A L ∧ Below w0.heap.size w0 wr
theorem row_300 {p : Pce} {r : Rw} (hp : PceOk p) (hl : p.2.2.1 ≤ 100 ∧ p.2.2.2.1.size ≤ 300) (h : rowOf p = some r) : r.2.1 ≤ 300 := by
  unfold rowOf at h
  split at h
  · obtain ⟨hg, _⟩ := hp
    generalize p.2.2.2.2 = q at *
    cases q with
    | none => cases h
    | some ps =>
      simp only at h hg
      have := hg.len
      split at h
      · injection h with h; subst h; simp only; omega
      · cases h
  · split at h
    · injection h with h; subst h; simp only; omega
    · cases h
theorem fold_len : ∀ (more l : List Pr), (more.foldl putL l).length = l.length + more.length
  | [], l => by simp
  | x :: more, l => by rw [List.foldl_cons, fold_len more, putL_len, List.length_cons]; omega
theorem join_len {l more L : List Pr} (h : joinL l more = some L) : L.length = l.length + more.length := by
  unfold joinL at h
  split at h
  · cases h
  · injection h with h; subst h; exact fold_len more l
theorem made_any (A : Option Addr) (c : Nat) (l : List Pce) (hl : LightP l) (hok : ∀ p ∈ l, PceOk p) (w : World) (h : PcsL w w.heap.size A l) :
    Calls Tryd.prog 10 #[.slice A l.length c] w (MdPost l w) := by
  have HI : Hid (∀ k w', madeF [] l 0 = .inr k → Below w.heap.size w w' → MdPost l w (.returned (.tuple #[.slice none 0 0, .int .i64 (k : Nat)])) w') := Lib.hid fun k w' hm hb => by
    unfold MdPost mdL mdAt
    rw [hm]
    exact ⟨none, 0, rfl, Nat.le_refl _, PrsL.nil _ _ _, hb⟩
  have HL : Hid (∀ M A c w', madeF [] l 0 = .inl M → M.length ≤ c → PrsL w' w'.heap.size A M → Below w.heap.size w w' → MdPost l w (.returned (.tuple #[.slice A M.length c, .int .i64 (-1)])) w') := Lib.hid fun M A c w' hm hc hr hb => by
    unfold MdPost mdL mdAt
    rw [hm]
    exact ⟨A, c, rfl, hc, hr, hb⟩
  generalize MdPost l w = P at *
  have hl12 := hl.1
  go_enter Tryd.func10, Tryd.ntmps10
  go_wp2_with fail
  go_loopw [4, 11] (fun v i wr => MdRel l w v i wr) (fun _ i _ => l.length - (intOf i).toNat)
  case atStart => exact ⟨0, none, 0, [], by omega, rfl, rfl, Nat.le_refl _, rfl, by simp, PrsL.nil _ _ _, Below.refl _ w⟩
  case round =>
    obtain ⟨k, A3, c3, L, hk, rfl, rfl, hc3, hm, hLl, hr3, hb⟩ := hrel
    have hz := hb.size
    by_cases hlt : k < l.length
    · obtain ⟨p, hp⟩ : ∃ p, l[k]? = some p := ⟨_, List.getElem?_eq_getElem hlt⟩
      obtain ⟨ad, rfl, hadb, y0, y1, y2, y3⟩ := (h.below hb).piece hp
      have hmem := List.mem_of_getElem? hp
      rw [drop_at hp, madeF] at hm
      have hlp := hl.2 p hmem
      cases hr : rowOf p with
      | none =>
        rw [hr] at hm
        have hpc := fun w => RPiece_none hr (hok p hmem) (by omega) w
        have HM := Lib.hid (HI.out k · hm)
        clear HI HL hm hr3
        go_wp2_with (go_at_call 26; refine (hpc _).mono ?_; rintro e w3 ⟨rfl, hb3⟩; have HB3 := (hb.alloc hz _).trans (hb3.mono (by simp; omega)))
        exact HM.out _ HB3
      | some r =>
        rw [hr] at hm
        have hrl := row_300 (hok p hmem) hlp hr
        have hpl := prs_len r
        have hpc := fun w => RPiece_some hr (hok p hmem) (by omega) w
        cases hj : joinL L (prs r) with
        | none =>
          simp only [hj] at hm
          have HM := Lib.hid (HI.out k · hm)
          have hjn := fun A2 c2 w => RJoin_none hj A3 A2 c3 c2 hc3 (by omega) w
          have Hr3 := Lib.hid hr3
          clear HI HL hm hr3 hpl
          go_wp2_with (first | (go_at_call 26; refine (hpc _).mono ?_; rintro e w3 ⟨A4, c4, rfl, hc4, hr4, hb3⟩; have HB3 := (hb.alloc hz _).trans (hb3.mono (by simp; omega)); have Hr4 := Lib.hid hr4; clear hr4; have Hr5 := Lib.hid ((Hr3.out.below (below_a1 hb3)).more (show wr.heap.size ≤ w3.heap.size by have := hb3.size; simp at this; omega))) | (go_at_call 27; refine (hjn _ _ _ Hr5.out Hr4.out).mono ?_; rintro e w5 ⟨rfl, hb5⟩; have HB5 := HB3.trans (hb5.mono HB3.size)))
          exact HM.out _ HB5
        | some M =>
          simp only [hj] at hm
          have hjl := join_len hj
          have hjn := fun A2 c2 w => RJoin_some hj A3 A2 c3 c2 hc3 (by omega) w
          have Hr3 := Lib.hid hr3
          have Hm := Lib.hid hm
          have hML : M.length ≤ 300 * (k + 1) := by omega
          clear HI HL hm hr3 hjl hpl
          go_wp2_with (first | (go_at_call 26; refine (hpc _).mono ?_; rintro e w3 ⟨A4, c4, rfl, hc4, hr4, hb3⟩; have HB3 := (hb.alloc hz _).trans (hb3.mono (by simp; omega)); have Hr4 := Lib.hid hr4; clear hr4; have Hr5 := Lib.hid ((Hr3.out.below (below_a1 hb3)).more (show wr.heap.size ≤ w3.heap.size by have := hb3.size; simp at this; omega))) | (go_at_call 27; refine (hjn _ _ _ Hr5.out Hr4.out).mono ?_; rintro e w5 ⟨A6, c6, rfl, hc6, hr6, hb5⟩; have HB5 := HB3.trans (hb5.mono HB3.size); have Hr6 := Lib.hid hr6; clear hr6))
          exact ⟨⟨k + 1, A6, c6, M, by omega, by simp, rfl, hc6, Hm.out, hML, Hr6.out, HB5⟩, by simp [intOf]; omega⟩
    · obtain rfl : k = l.length := by omega
      rw [List.drop_length, madeF] at hm
      have HM := Lib.hid (HL.out L A3 c3 · hm hc3)
      have Hr3 := Lib.hid hr3
      clear HI HL hm hr3
      go_wp2_with fail
      exact HM.out _ Hr3.out hb
end Go.Proofs.YtmfnnggnnnagiaaDoor
