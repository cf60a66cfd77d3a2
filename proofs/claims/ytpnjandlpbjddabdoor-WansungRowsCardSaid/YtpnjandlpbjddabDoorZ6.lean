/- Contracts of a row's part, and of a piece as a row; conditions: a text of less than 2^20 bytes. -/
import Derived.Test.YtpnjandlpbjddabDoorZ5
import Derived.Test.YtpnjandlpbjddabDoorZ2
import Derived.Deep.Heap
import Derived.OrdersHeld
import Derived.Deep.RegionHeld
import Derived.Deep.RegionHeld3
import Derived.Test.YtpnjandlpbjddabDoorRShelf
import Derived.Sort.OwnSortedInts
import Derived.Lib.AppendZeros
import Derived.Shelf.SlSortCmp.NoneTotal
set_option maxRecDepth 100000
set_option maxHeartbeats 1000000
namespace Go.Proofs.YtpnjandlpbjddabDoor
open Go Go.RowKit

/-- A new box stands while what lies above it turns. -/
theorem bx {w wr : World} {T : TypeId} {cs : Array Value} (hb : Below (w.alloc (.cells cs T)).heap.size (w.alloc (.cells cs T)) wr) :
    (∀ j, wr.cell? ⟨w.heap.size, j, none⟩ = cs[j]?) ∧ (∀ j, wr.frozen? ⟨w.heap.size, j, none⟩ = false) ∧ w.heap.size < wr.heap.size := by
  have h1 := hb.size
  simp only [World.size_alloc] at h1
  have hl : w.heap.size < (w.alloc (.cells cs T)).heap.size := by simp
  have e := heap_alloc_new w (.cells cs T)
  refine ⟨fun j => ?_, fun j => ?_, by omega⟩
  · rw [hb.cell (p := ⟨w.heap.size, j, none⟩) hl, cell_of_row _ w.heap.size j _ T (0, 0) e]
  · rw [hb.frozen (p := ⟨w.heap.size, j, none⟩) hl, frozen_of_row _ w.heap.size j _ T e]
theorem bx4 {w wr : World} {T : TypeId} {a b c d : Value} (hb : Below (w.alloc (.cells #[a, b, c, d] T)).heap.size (w.alloc (.cells #[a, b, c, d] T)) wr) :
    (wr.cell? ⟨w.heap.size, 0, none⟩ = some a ∧ wr.cell? ⟨w.heap.size, 1, none⟩ = some b ∧ wr.cell? ⟨w.heap.size, 2, none⟩ = some c ∧ wr.cell? ⟨w.heap.size, 3, none⟩ = some d) ∧ (wr.frozen? ⟨w.heap.size, 0, none⟩ = false ∧ wr.frozen? ⟨w.heap.size, 1, none⟩ = false ∧ wr.frozen? ⟨w.heap.size, 2, none⟩ = false ∧ wr.frozen? ⟨w.heap.size, 3, none⟩ = false) := by
  obtain ⟨h1, h2, _⟩ := bx hb
  exact ⟨⟨h1 0, h1 1, h1 2, h1 3⟩, h2 0, h2 1, h2 2, h2 3⟩
theorem addr_add (a : Addr) (i j : Nat) : (a.add i).add j = a.add (i + j) := by
  unfold Addr.add
  by_cases h1 : i = 0
  · subst h1; simp
  · by_cases h2 : j = 0
    · subst h2; simp
    · rw [if_neg h1, if_neg h2, if_neg (by omega)]; simp [Nat.add_assoc]
def partR (r : Rw) (a b : Nat) : Rw := (a, b - a, match r.2.2.2 with
  | none => (r.2.2.1 + ((a - r.1 : Nat) : Int), none)
  | some l => (0, some ((l.drop (a - r.1)).take (b - a))))
theorem part_ok {r : Rw} {a b : Nat} (h : RwOk r) (h1 : r.1 ≤ a) (h2 : a < b) (h3 : b ≤ r.1 + r.2.1) : RwOk (partR r a b) := by
  obtain ⟨f, n, t, q⟩ := r
  obtain ⟨g1, g2, g3⟩ := h
  simp only at g1 g2 g3 h1 h3
  cases q with
  | none =>
    simp only at g3
    refine ⟨by simp [partR]; omega, by simp [partR]; omega, ?_⟩
    simp only [partR]
    omega
  | some l =>
    simp only at g3
    refine ⟨by simp [partR]; omega, by simp [partR]; omega, ?_⟩
    simp only [partR]
    refine ⟨trivial, by rw [List.length_take, List.length_drop]; omega, fun p hp => g3.2.2 p (List.mem_of_mem_drop (List.mem_of_mem_take hp))⟩
theorem part_sg {r : Rw} {a b c : Nat} (h1 : r.1 ≤ a) (h2 : a ≤ c) (h3 : c < b) : sgAt (partR r a b) (c - a) = sgAt r (c - r.1) := by
  obtain ⟨f, n, t, q⟩ := r
  simp only at h1
  cases q with
  | none => simp only [partR, sgAt]; omega
  | some l =>
    simp only [partR, sgAt, List.getD]
    rw [List.getElem?_take_of_lt (by omega), List.getElem?_drop, show a - f + (c - a) = c - f by omega]
theorem part_mem {r : Rw} {a b : Nat} (h1 : r.1 ≤ a) (h3 : b ≤ r.1 + r.2.1) {x : Pr} : x ∈ prs (partR r a b) ↔ a ≤ x.1 ∧ x.1 < b ∧ x ∈ prs r := by
  have e1 : (partR r a b).1 = a := rfl
  have e2 : (partR r a b).2.1 = b - a := rfl
  rw [mem_prs, mem_prs, e1, e2]
  constructor
  · rintro ⟨g1, g2, g3⟩
    rw [part_sg h1 g1 (by omega)] at g3
    exact ⟨g1, by omega, by omega, by omega, g3⟩
  · rintro ⟨g1, g2, g3, g4, g5⟩
    exact ⟨g1, by omega, by rw [part_sg h1 g1 g2]; exact g5⟩
def PtPost (x : Rw × Sl) (a b : Nat) (w0 : World) (e : Ending) (w' : World) : Prop := ∃ v, e = .returned (.agg (rV (partR x.1 a b, v)).toArray) ∧ SgOk w' w0.heap.size (partR x.1 a b, v) ∧ Below w0.heap.size w0 w'
theorem Part_any (x : Rw × Sl) (a b : Nat) (hx : RwOk x.1) (h1 : x.1.1 ≤ a) (h2 : a < b) (h3 : b ≤ x.1.1 + x.1.2.1) (w : World) (hs : SgOk w w.heap.size x) :
    Calls Tryd.prog 57 #[.agg (rV x).toArray, .int .i64 (a : Int), .int .i64 (b : Int)] w (PtPost x a b w) := by
  have hsg := fun (W : World) (hb : Below w.heap.size w W) => RwSg_any x a hx ⟨h1, by omega⟩ W ((hs.below hb).more hb.size)
  obtain ⟨⟨f, n, t, q⟩, v⟩ := x
  obtain ⟨g1, g2, g3⟩ := hx
  simp only at g1 g2 g3 h1 h3 hsg
  have e1 : IntKind.i64.wrap ((b : Int) - a) = (b : Int) - a := IntWalk.i64_in _ (by omega)
  have c1 : (b : Int) - a = ((b - a : Nat) : Int) := by omega
  have hnn := fun (w : World) (a : Option Addr) (n c : Nat) => run_neq_slice_nil_any (P := Tryd.prog) w 71 _ a n c 0 0 Tryd.underlying71
  cases q with
  | none =>
    obtain rfl : v = (none, 0, 0) := hs
    unfold rV slV at hsg ⊢
    unfold PtPost rV slV
    simp only [partR] at hsg ⊢
    have hr : sgAt (f, n, t, none) (a - f) = t + ((a - f : Nat) : Int) := rfl
    rw [hr] at hsg
    go_enter Tryd.func57, Tryd.ntmps57
    go_wp2_with (go_at_call 41; refine (hsg _ (((((Below.refl _ w).alloc (Nat.le_refl _) _).alloc (by simp) _).alloc (by simp; omega) _))).mono ?_; rintro e w1 ⟨rfl, hb1⟩; have hB1 := below_a1 hb1; obtain ⟨⟨b0, b1, b2, b3⟩, f0, f1, f2, f3⟩ := bx4 hb1; obtain ⟨⟨c0, c1, c2, c3⟩, k0, k1, k2, k3⟩ := bx4 (below_a1 hb1); simp only [World.size_alloc] at b0 b1 b2 b3 f0 f1 f2 f3 c0 c1 c2 c3 k0 k1 k2 k3)
    refine bodyPost_ret (v := .agg #[.int .i64 (a : Int), .int .i64 ((b - a : Nat) : Int), .int .i32 (t + ((a - f : Nat) : Int)), .slice none 0 0]) (by simp [results, Tryd.results57, go_sem, c0, c1, c2, c3]) rfl ?_
    refine ⟨(none, 0, 0), rfl, rfl, ?_⟩
    exact (((((below_a1 (below_a1 (below_a1 hb1))).setCell (by simp; omega) _).setCell (by simp) _).setCell (by simp) _).setCell (by simp) _).setCell (by simp) _
  | some l =>
    obtain ⟨ad, cp, cs, fr, hv, hcp, hbk, hsp, hh, hcs⟩ := hs
    simp only at hv hcp hcs g3
    obtain ⟨rfl, g4, _⟩ := g3
    subst hv
    have e2 : IntKind.i64.wrap ((a : Int) - f) = (a : Int) - f := IntWalk.i64_in _ (by omega)
    have c2 : (a : Int) - f = ((a - f : Nat) : Int) := by omega
    have e3 : IntKind.i64.wrap ((b : Int) - f) = (b : Int) - f := IntWalk.i64_in _ (by omega)
    have c3 : (b : Int) - f = ((b - f : Nat) : Int) := by omega
    have hfin : SgOk w w.heap.size ((a, b - a, 0, some ((l.drop (a - f)).take (b - a))), (some (ad.add (a - f)), b - f - (a - f), cp - (a - f))) := by
      have hbk2 : (ad.add (a - f)).block = ad.block := by rw [addr_eq hsp]
      have hof2 : (ad.add (a - f)).off = ad.off + (a - f) := by rw [addr_eq hsp]
      refine ⟨ad.add (a - f), cp - (a - f), cs, fr, ?_, ?_, by rw [hbk2]; exact hbk, by rw [addr_eq hsp], by rw [hbk2]; exact hh, fun j hj => ?_⟩
      · simp only [List.length_take, List.length_drop]
        rw [show min (b - a) (l.length - (a - f)) = b - f - (a - f) by omega]
      · simp only [List.length_take, List.length_drop]; omega
      · simp only [List.length_take, List.length_drop] at hj
        have := hcs (a - f + j) (by omega)
        rw [hof2, Nat.add_assoc, this]
        simp only [List.getD]
        rw [List.getElem?_take_of_lt (by omega), List.getElem?_drop]
    have Hfin := Lib.hid hfin
    have g5 : a - f ≤ b - f := by omega
    have g6 : b - f ≤ cp := by omega
    have g7 : a - f ≤ cp := by omega
    clear hcs hh hfin hsg
    unfold PtPost rV slV
    simp only [partR]
    go_enter Tryd.func57, Tryd.ntmps57
    go_wp2_with fail
    refine bodyPost_ret (v := .agg #[.int .i64 (a : Int), .int .i64 ((b - a : Nat) : Int), .int .i32 0, .slice (some (ad.add (a - f))) (b - f - (a - f)) (cp - (a - f))]) (by simp [results, Tryd.results57, go_sem]) rfl ?_
    have hB : ∀ o1 o2 o3, Below w.heap.size w (((w.alloc o1).alloc o2).alloc o3) := fun o1 o2 o3 => (((Below.refl _ w).alloc (Nat.le_refl _) _).alloc (by simp) _).alloc (by simp; omega) _
    exact ⟨(some (ad.add (a - f)), b - f - (a - f), cp - (a - f)), rfl, Hfin.out.below (hB _ _ _), hB _ _ _⟩
def pV (p : Pce) : List Value := [.int .i64 p.1, .int .i32 p.2.1, .int .i64 p.2.2.1, .string p.2.2.2.1]
theorem pV_len (p : Pce) : (pV p).length = 4 := rfl
def noRow : Value := .agg #[.int .i64 0, .int .i64 0, .int .i32 0, .slice none 0 0]
def PrPost (p : Pce) (w0 : World) (e : Ending) (w' : World) : Prop := (rowOf p = none ∧ e = .returned (.tuple #[noRow, .bool false]) ∨ ∃ r v, rowOf p = some r ∧ e = .returned (.tuple #[.agg (rV (r, v)).toArray, .bool true]) ∧ SgOk w' w'.heap.size (r, v)) ∧ Below w0.heap.size w0 w'
theorem inside_iff (f n : Int) : insideB f n = true ↔ 0 ≤ f ∧ 1 ≤ n ∧ f + n ≤ 1048576 := by unfold insideB; exact decide_eq_true_iff
theorem cell_set {w : World} {k j : Nat} {p : Addr} (h : p.block ≠ k) (v : Value) : (w.setCell ⟨k, j, none⟩ v).cell? p = w.cell? p :=
  World.cell?_setCell_other _ _ _ _ (fun e => h (by rw [← e]))
theorem heap_set {w : World} {k j g : Nat} (h : g ≠ k) (v : Value) : (w.setCell ⟨k, j, none⟩ v).heap[g]? = w.heap[g]? := Go.Deep.blk_setCell_other w _ v g h
theorem sg_box {w : World} {k : Nat} {ps : List Int} {A : Option Addr} {c f : Nat} (hnum : Nums w w.heap.size .i32 A ps) (hcap : ps.length ≤ c) (hl : 1 ≤ ps.length) (hfr : ∀ ad, A = some ad → ad.block ≠ k ∧ ad.spot = none ∧ ∃ cs fr, w.heap[ad.block]? = some (.cells cs 21 fr) ∧ ∀ j, j < ps.length → cs[ad.off + j]? = some (.int .i32 (ps.getD j 0))) (v0 v1 v2 v3 : Value) (o : Obj) :
    SgOk (((((w.setCell ⟨k, 0, none⟩ v0).setCell ⟨k, 1, none⟩ v1).setCell ⟨k, 2, none⟩ v2).setCell ⟨k, 3, none⟩ v3).alloc o) (((((w.setCell ⟨k, 0, none⟩ v0).setCell ⟨k, 1, none⟩ v1).setCell ⟨k, 2, none⟩ v2).setCell ⟨k, 3, none⟩ v3).alloc o).heap.size ((f, ps.length, 0, some ps), (A, ps.length, c)) := by
  obtain ⟨ad, rfl, hbk, _⟩ := hnum.at_ (i := 0) (by omega)
  obtain ⟨hfa, hsp, cs, fr, hh, hcs⟩ := hfr ad rfl
  refine ⟨ad, c, cs, fr, rfl, hcap, by simp; omega, hsp, ?_, hcs⟩
  rw [Below.heap_alloc _ _ _ (by simp; omega), heap_set hfa, heap_set hfa, heap_set hfa, heap_set hfa]
  exact hh
theorem PRow_any (p : Pce) (hp : PceOk p) (hs : p.2.2.2.1.size ≤ 1000000) (w : World) (hT : Tabs w) :
    Calls Tryd.prog 44 #[.agg (pV p).toArray] w (PrPost p w) := by
  have HN : Hid (rowOf p = none → ∀ w', Below w.heap.size w w' → PrPost p w (.returned (.tuple #[noRow, .bool false])) w') := Lib.hid fun h w' hb => ⟨.inl ⟨h, rfl⟩, hb⟩
  have HY : Hid (∀ r v w', rowOf p = some r → SgOk w' w'.heap.size (r, v) → Below w.heap.size w w' → PrPost p w (.returned (.tuple #[.agg (rV (r, v)).toArray, .bool true])) w') := Lib.hid fun r v w' h hg hb => ⟨.inr ⟨r, v, h, rfl, hg⟩, hb⟩
  generalize PrPost p w = P at *
  unfold noRow at HN
  obtain ⟨f, t, n, s, q⟩ := p
  obtain ⟨hg, hf, ht, hn⟩ := hp
  simp only at hg hf ht hn hs
  have hB2 : ∀ o1 o2, Below w.heap.size w ((w.alloc o1).alloc o2) := fun o1 o2 => ((Below.refl _ w).alloc (Nat.le_refl _) _).alloc (by simp) _
  have hrow : rowOf (f, t, n, s, q) = if s.size ≠ 0 then
      match q with
      | some ps => if 0 ≤ f ∧ f + ps.length ≤ 1048576 then some (f.toNat, ps.length, 0, some ps) else none
      | none => none
    else if 0 ≤ f ∧ 1 ≤ n ∧ f + n ≤ 1048576 ∧ scalarB t = true ∧ scalarB (t + n - 1) = true ∧ (t < 55296 ↔ t + n - 1 < 55296) then some (f.toNat, n.toNat, t, none)
    else none := rfl
  unfold pV
  by_cases hz : s.size = 0
  · rw [if_neg (by simpa using hz)] at hrow
    have hem : s.toList.isEmpty = true := by
      rw [ByteArray.toList_eq, show s.data.toList = [] from List.eq_nil_of_length_eq_zero (by simpa using hz)]; rfl
    have hin := fun w => Inside_any f n hf w
    have hsc := fun w => Scalar_any t w
    clear hg
    cases hi : insideB f n with
    | false =>
      have hno : ¬ (0 ≤ f ∧ 1 ≤ n ∧ f + n ≤ 1048576) := fun h => by rw [(inside_iff f n).2 h] at hi; cases hi
      rw [if_neg (fun h => hno ⟨h.1, h.2.1, h.2.2.1⟩)] at hrow
      have Hf := Lib.hid (HN.out hrow)
      rw [hi] at hin
      clear HN HY hrow hno
      go_enter Tryd.func44, Tryd.ntmps44
      go_wp2_with (go_at_call 63; refine (hin _).mono ?_; rintro e w1 ⟨rfl, rfl⟩)
      refine bodyPost_ret (v := .tuple #[noRow, .bool false]) (by simp [noRow, results, Tryd.results44, go_sem]) rfl ?_
      exact Hf.out _ (hB2 _ _)
    | true =>
      have hyes := (inside_iff f n).1 hi
      rw [hi] at hin
      cases hst : scalarB t with
      | false =>
        rw [if_neg (fun h => by rw [hst] at h; cases h.2.2.2.1)] at hrow
        have Hf := Lib.hid (HN.out hrow)
        rw [hst] at hsc
        clear HN HY hrow
        go_enter Tryd.func44, Tryd.ntmps44
        go_wp2_with (first | (go_at_call 63; refine (hin _).mono ?_; rintro e w1 ⟨rfl, rfl⟩) | (go_at_call 64; refine (hsc _).mono ?_; rintro e w1 ⟨rfl, rfl⟩))
        refine bodyPost_ret (v := .tuple #[noRow, .bool false]) (by simp [noRow, results, Tryd.results44, go_sem]) rfl ?_
        exact Hf.out _ (hB2 _ _)
      | true =>
        rw [hst] at hsc
        have h1 := scalar_rng hst
        have e1 : IntKind.i64.wrap (n - 1) = n - 1 := IntWalk.i64_in _ (by omega)
        have e2 : IntKind.i32.wrap (n - 1) = n - 1 := IntWalk.i32_in _ (by omega)
        have e3 : IntKind.i32.wrap (t + (n - 1)) = t + (n - 1) := IntWalk.i32_in _ (by omega)
        have hsl := fun w => Scalar_any (t + (n - 1)) w
        have e4 : t + n - 1 = t + (n - 1) := by omega
        rw [e4] at hrow
        cases hsl2 : scalarB (t + (n - 1)) with
        | false =>
          rw [if_neg (fun h => by rw [hsl2] at h; cases h.2.2.2.2.1)] at hrow
          have Hf := Lib.hid (HN.out hrow)
          rw [hsl2] at hsl
          clear HN HY hrow e4
          go_enter Tryd.func44, Tryd.ntmps44
          go_wp2_with (first | (go_at_call 63; refine (hin _).mono ?_; rintro e w1 ⟨rfl, rfl⟩) | (go_at_call 64; first | (refine (hsc _).mono ?_; rintro e w1 ⟨rfl, rfl⟩; clear hsc) | (refine (hsl _).mono ?_; rintro e w1 ⟨rfl, rfl⟩)))
          refine bodyPost_ret (v := .tuple #[noRow, .bool false]) (by simp [noRow, results, Tryd.results44, go_sem]) rfl ?_
          exact Hf.out _ (hB2 _ _)
        | true =>
          rw [hsl2] at hsl
          by_cases hgap : t < 55296 ↔ t + (n - 1) < 55296
          · have hgb : (!decide (t < 55296) == decide (t + (n - 1) < 55296)) = false := by simp [hgap]
            rw [if_pos ⟨hyes.1, hyes.2.1, hyes.2.2, hst, hsl2, hgap⟩] at hrow
            have hf2 : ((f.toNat : Nat) : Int) = f := by omega
            have hn2 : ((n.toNat : Nat) : Int) = n := by omega
            have Hf := Lib.hid (HY.out _ (none, 0, 0) · hrow rfl)
            unfold rV slV at Hf
            simp only [hf2, hn2] at Hf
            clear HN HY hrow e4 hf2 hn2 hyes hgap
            go_enter Tryd.func44, Tryd.ntmps44
            go_wp2_with (first | (go_at_call 63; refine (hin _).mono ?_; rintro e w1 ⟨rfl, rfl⟩) | (go_at_call 64; first | (refine (hsc _).mono ?_; rintro e w1 ⟨rfl, rfl⟩; clear hsc) | (refine (hsl _).mono ?_; rintro e w1 ⟨rfl, rfl⟩)))
            refine bodyPost_ret (v := .tuple #[.agg #[.int .i64 f, .int .i64 n, .int .i32 t, .slice none 0 0], .bool true]) (by simp [results, Tryd.results44, go_sem]) rfl ?_
            exact Hf.out _ (hB2 _ _)
          · have hgb : (!decide (t < 55296) == decide (t + (n - 1) < 55296)) = true := by
              have a : t < 55296 := by omega
              have b : ¬ t + (n - 1) < 55296 := by omega
              simp [a, b]
            rw [if_neg (fun h => hgap h.2.2.2.2.2)] at hrow
            have Hf := Lib.hid (HN.out hrow)
            clear HN HY hrow e4 hgap
            go_enter Tryd.func44, Tryd.ntmps44
            go_wp2_with (first | (go_at_call 63; refine (hin _).mono ?_; rintro e w1 ⟨rfl, rfl⟩) | (go_at_call 64; first | (refine (hsc _).mono ?_; rintro e w1 ⟨rfl, rfl⟩; clear hsc) | (refine (hsl _).mono ?_; rintro e w1 ⟨rfl, rfl⟩)))
            refine bodyPost_ret (v := .tuple #[noRow, .bool false]) (by simp [noRow, results, Tryd.results44, go_sem]) rfl ?_
            exact Hf.out _ (hB2 _ _)
  · rw [if_pos (by simpa using hz)] at hrow
    have hem : s.toList.isEmpty = false := by
      have := (show s.data.toList.length = s.size by simp)
      rw [ByteArray.toList_eq]
      generalize s.data.toList = l at *
      cases l with
      | nil => simp at this; omega
      | cons _ _ => rfl
    cases q with
    | none =>
      obtain ⟨k, hbad⟩ := hg
      have hin : ∀ w, Calls Tryd.prog 63 #[.int .i64 f, .int .i64 0] w fun e w' => e = .returned (.bool false) ∧ w = w' := fun w => by
        have := Inside_any f 0 hf w
        rw [show insideB f 0 = false from decide_eq_false (by omega)] at this
        exact this
      have hc := fun w hT => Count_bad s k hbad (by omega) w hT
      have Hf := Lib.hid (HN.out hrow)
      clear HN HY hrow
      go_enter Tryd.func44, Tryd.ntmps44
      go_wp2_with (first | (go_at_call 63; refine (hin _).mono ?_; rintro e w1 ⟨rfl, rfl⟩) | (go_at_call 24; refine (hc _ (tabs_alloc (tabs_alloc hT _) _)).mono ?_; rintro e w1 ⟨rfl, hb1⟩; obtain ⟨⟨b0, b1, b2, b3⟩, f0, f1, f2, f3⟩ := bx4 hb1; obtain ⟨⟨c0, c1, c2, c3⟩, k0, k1, k2, k3⟩ := bx4 (below_a1 hb1); simp only [World.size_alloc] at b0 b1 b2 b3 f0 f1 f2 f3))
      refine bodyPost_ret (v := .tuple #[noRow, .bool false]) (by simp [noRow, results, Tryd.results44, go_sem, b0, b1, b2, b3]) rfl ?_
      exact Hf.out _ (((((below_a1 (below_a1 hb1)).setCell (by simp) _).setCell (by simp) _).setCell (by simp) _).setCell (by simp) _)
    | some ps =>
      have hg : Good s ps := hg
      have hl1 := good_pos hg hz
      have hl2 := hg.len
      have hin := fun w => Inside_any f ps.length hf w
      have hc := fun w hT => Count_good s ps hg (by omega) w hT
      simp only at hrow
      cases hi : insideB f ps.length with
      | false =>
        rw [if_neg (fun h => by rw [(inside_iff f ps.length).2 ⟨h.1, by omega, h.2⟩] at hi; cases hi)] at hrow
        rw [hi] at hin
        have Hf := Lib.hid (HN.out hrow)
        clear HN HY hrow
        go_enter Tryd.func44, Tryd.ntmps44
        go_wp2_with (first | (go_at_call 63; refine (hin _).mono ?_; rintro e w1 ⟨rfl, rfl⟩) | (go_at_call 24; refine (hc _ (tabs_alloc (tabs_alloc hT _) _)).mono ?_; rintro e w1 ⟨rfl, hb1⟩; obtain ⟨⟨b0, b1, b2, b3⟩, f0, f1, f2, f3⟩ := bx4 hb1; obtain ⟨⟨c0, c1, c2, c3⟩, k0, k1, k2, k3⟩ := bx4 (below_a1 hb1); simp only [World.size_alloc] at b0 b1 b2 b3 f0 f1 f2 f3))
        refine bodyPost_ret (v := .tuple #[noRow, .bool false]) (by simp [noRow, results, Tryd.results44, go_sem, b0, b1, b2, b3]) rfl ?_
        exact Hf.out _ (((((below_a1 (below_a1 hb1)).setCell (by simp) _).setCell (by simp) _).setCell (by simp) _).setCell (by simp) _)
      | true =>
        have hyes := (inside_iff f ps.length).1 hi
        rw [if_pos ⟨hyes.1, hyes.2.2⟩] at hrow
        rw [hi] at hin
        have hf2 : ((f.toNat : Nat) : Int) = f := by omega
        have hpt := fun w hT => Points_own s ps hg (by omega) w hT
        have Hf := Lib.hid (fun v w' => HY.out _ v w' hrow)
        unfold rV slV at Hf
        simp only [hf2] at Hf
        clear HN HY hrow hf2 hyes
        go_enter Tryd.func44, Tryd.ntmps44
        go_wp2_with (first | (go_at_call 63; refine (hin _).mono ?_; rintro e w1 ⟨rfl, rfl⟩) | (go_at_call 24; refine (hc _ (tabs_alloc (tabs_alloc hT _) _)).mono ?_; rintro e w1 ⟨rfl, hb1⟩; have hz1 := hb1.size; simp only [World.size_alloc] at hz1; obtain ⟨⟨b0, b1, b2, b3⟩, f0, f1, f2, f3⟩ := bx4 hb1; obtain ⟨⟨c0, c1, c2, c3⟩, k0, k1, k2, k3⟩ := bx4 (below_a1 hb1); simp only [World.size_alloc] at b0 b1 b2 b3 f0 f1 f2 f3) | (go_at_call 59; refine (hpt _ (Tabs_below hT (below_a1 (below_a1 hb1)) (Nat.le_refl _))).mono ?_; rintro e w2 ⟨A, c, rfl, hcap, hnum, hfr, hb2⟩; have hz2 := hb2.size; have g0 : w.heap.size < w2.heap.size := (by omega); have g1 : w.heap.size + 1 < w2.heap.size := (by omega); have d0 := (hb2.cell (p := ⟨w.heap.size, 0, none⟩) (by show w.heap.size < _; omega)).trans c0; have q0 := (hb2.cell (p := ⟨w.heap.size + 1, 0, none⟩) (by show w.heap.size + 1 < _; omega)).trans b0; have q1 := (hb2.cell (p := ⟨w.heap.size + 1, 1, none⟩) (by show w.heap.size + 1 < _; omega)).trans b1; have q2 := (hb2.cell (p := ⟨w.heap.size + 1, 2, none⟩) (by show w.heap.size + 1 < _; omega)).trans b2; have q3 := (hb2.cell (p := ⟨w.heap.size + 1, 3, none⟩) (by show w.heap.size + 1 < _; omega)).trans b3; have r0 := (hb2.frozen (p := ⟨w.heap.size + 1, 0, none⟩) (by show w.heap.size + 1 < _; omega)).trans f0; have r1 := (hb2.frozen (p := ⟨w.heap.size + 1, 1, none⟩) (by show w.heap.size + 1 < _; omega)).trans f1; have r2 := (hb2.frozen (p := ⟨w.heap.size + 1, 2, none⟩) (by show w.heap.size + 1 < _; omega)).trans f2; have r3 := (hb2.frozen (p := ⟨w.heap.size + 1, 3, none⟩) (by show w.heap.size + 1 < _; omega)).trans f3))
        refine bodyPost_ret (v := .tuple #[.agg #[.int .i64 f, .int .i64 ps.length, .int .i32 0, .slice A ps.length c], .bool true]) (by simp [results, Tryd.results44, go_sem, World.cell?_alloc_lt, g1, q0, q1, q2, q3]) rfl ?_
        refine Hf.out (A, ps.length, c) _ ?_ ?_
        · exact sg_box hnum hcap hl1 (fun ad e => ⟨by have := (hfr ad e).1; omega, (hfr ad e).2⟩) _ _ _ _ _
        · exact ((((((below_a1 (below_a1 hb1)).trans (hb2.mono (by omega))).setCell (by simp) _).setCell (by simp) _).setCell (by simp) _).setCell (by simp) _).alloc (by simp; omega) _
end Go.Proofs.YtpnjandlpbjddabDoor

/- A region that draws its order, walked in ONE order: what yields its value in every world that meets S is taken as soon as it may come up, the rest wait for one another. Over any program. -/
namespace Go.Proofs.YtpnjandlpbjddabDoor
open Go

/-- The i-th operation, so that it is laid open by unfolding. -/
def nthOp : List Oper → Nat → Option Oper
  | [], _ => none
  | o :: _, 0 => some o
  | _ :: l, i + 1 => nthOp l i
theorem nthOp_eq : ∀ (l : List Oper) (i : Nat), nthOp l i = l.toArray[i]?
  | [], i => by simp [nthOp]
  | o :: l, 0 => by simp [nthOp]
  | o :: l, i + 1 => by
    have := nthOp_eq l i
    simp only [nthOp, this]
    simp

def linOk (ops : Array Oper) : List (Nat × Bool) → Array Bool → Bool
  | [], listed => (Region.ready .any ops listed).isEmpty
  | (i, true) :: r, listed => (Region.ready .any ops listed).contains i && Region.free .any ops listed i && linOk ops r (listed.setIfInBounds i true)
  | (i, false) :: r, listed => (Region.ready .any ops listed == [i]) && linOk ops r (listed.setIfInBounds i true)

section
variable {P : Program} {l : List Oper} {Q : Exit → Act → World → Prop} {S : World → Prop}

def wpLin (P : Program) (l : List Oper) (Q : Exit → Act → World → Prop) (S : World → Prop) : List (Nat × Bool) → Act → World → Prop
  | [], a, w => Q .normal a w
  | (i, true) :: r, a, w => ∃ o v, nthOp l i = some o ∧ YieldsIf P l.toArray S o v a ∧ wpLin P l Q S r (a.put o.dst v) w
  | (i, false) :: r, a, w => ∃ o, nthOp l i = some o ∧ (if Region.wanted o (yielded l.toArray a.tmps) = true then o.wp P a w (fun a' w' => S w' ∧ wpLin P l Q S r a' w') Q else wpLin P l Q S r (a.put o.dst undef) w)

theorem anyH_of_lin (hsel : Region.noSelect l.toArray = true) (hQ : ∀ c (a : Act) d v w, Q (.panic c) (a.put d v) w → Q (.panic c) a w) :
    ∀ (pl : List (Nat × Bool)) (fuel : Nat) (listed : Array Bool) (a : Act) (w : World), linOk l.toArray pl listed = true → pl.length ≤ fuel → S w → wpLin P l Q S pl a w → wpAnyH P .any l.toArray Q S fuel listed a w
  | [], fuel, listed, a, w, hok, _, _, h => wpAnyH_done (by simpa [linOk] using hok) h fuel
  | (i, true) :: r, 0, listed, a, w, hok, hf, hS, h => by simp at hf
  | (i, false) :: r, 0, listed, a, w, hok, hf, hS, h => by simp at hf
  | (i, true) :: r, fuel + 1, listed, a, w, hok, hf, hS, h => by
    obtain ⟨o, v, ho, hy, hr⟩ := h
    simp only [linOk, Bool.and_eq_true] at hok
    obtain ⟨⟨h1, h2⟩, h3⟩ := hok
    rw [nthOp_eq] at ho
    exact wpAnyH_take ho hsel h2 h1 (fun c a w => hQ c a _ _ w) hy hS (anyH_of_lin hsel hQ r fuel _ _ w h3 (by simpa using hf) hS hr)
  | (i, false) :: r, fuel + 1, listed, a, w, hok, hf, hS, h => by
    obtain ⟨o, ho, hr⟩ := h
    simp only [linOk, Bool.and_eq_true, beq_iff_eq] at hok
    obtain ⟨h1, h3⟩ := hok
    rw [nthOp_eq] at ho
    refine wpAnyH_all h1 (by simp) fun j hj => ?_
    have hj' : j = i := by simpa using hj
    subst hj'
    unfold wpOp
    rw [ho]
    simp only
    split
    · rename_i hw
      rw [if_pos hw] at hr
      exact .inl (Oper.wp_mono (fun a' w' hh => ⟨hh.1, anyH_of_lin hsel hQ r fuel _ a' w' h3 (by simpa using hf) hh.1 hh.2⟩) hr)
    · rename_i hw
      rw [if_neg hw] at hr
      exact ⟨hS, anyH_of_lin hsel hQ r fuel _ _ w h3 (by simpa using hf) hS hr⟩

/-- THE BEGINNING. -/
theorem wp_region_lin {id : Nat} {a : Act} {w : World} (S : World → Prop) (pl : List (Nat × Bool)) (hm : P.follows .mixedOrders = true) (hsel : Region.noSelect l.toArray = true)
    (hok : linOk l.toArray pl (Array.replicate l.toArray.size false) = true) (hlen : pl.length ≤ l.toArray.size)
    (hQ : ∀ c (a : Act) d v w, Q (.panic c) (a.put d v) w → Q (.panic c) a w) (hS : S w.drew) (h : wpLin P l Q S pl a w.drew) : (Code.region id l.toArray true).wp P Q a w :=
  wp_region_held_drew hm hS fun hS => anyH_of_lin hsel hQ pl _ _ a w.drew hok hlen hS h
theorem lin_nil {a : Act} {w : World} (h : Q .normal a w) : wpLin P l Q S [] a w := h
theorem lin_skip {i : Nat} {r : List (Nat × Bool)} {o : Oper} {a : Act} {w : World} (ho : nthOp l i = some o) (hw : Region.wanted o (yielded l.toArray a.tmps) = false) (h : wpLin P l Q S r (a.put o.dst undef) w) : wpLin P l Q S ((i, true) :: r) a w :=
  ⟨o, undef, ho, .inr ⟨hw, rfl⟩, h⟩
theorem lin_pure {i : Nat} {r : List (Nat × Bool)} {o : Oper} {a : Act} {w : World} (ho : nthOp l i = some o) (hw : Region.wanted o (yielded l.toArray a.tmps) = true) (v : Value) (hv : ∀ w, S w → (execOp a.eval o).run P w = .ok (.value v) w) (h : wpLin P l Q S r (a.put o.dst v) w) : wpLin P l Q S ((i, true) :: r) a w :=
  ⟨o, v, ho, .inl ⟨hw, hv⟩, h⟩
theorem lin_eff {i : Nat} {r : List (Nat × Bool)} {o : Oper} {a : Act} {w : World} (ho : nthOp l i = some o) (hw : Region.wanted o (yielded l.toArray a.tmps) = true)
    (h : ∀ K : Act → World → Prop, Shut (∀ a w, S w → wpLin P l Q S r a w → K a w) → o.wp P a w K Q) : wpLin P l Q S ((i, false) :: r) a w :=
  ⟨o, ho, by rw [if_pos hw]; exact h _ (fun a w hS hr => ⟨hS, hr⟩)⟩
end
end Go.Proofs.YtpnjandlpbjddabDoor

/- Contract of a row's code: the least code of a sign; no condition but that the row is one. -/
set_option maxRecDepth 100000
set_option maxHeartbeats 4000000
namespace Go.Proofs.YtpnjandlpbjddabDoor
open Go Go.RowKit

/-- The least code of a sign. -/
def lst (r : Rw) (p : Int) : Option Nat := ((prs r).find? fun x => x.2 == p).map (·.1)
theorem lst_eq (r : Rw) (p : Int) : lst r p = ((List.range r.2.1).find? fun i => sgAt r i == p).map (r.1 + ·) := by
  unfold lst prs
  rw [List.find?_map, Option.map_map]
  rfl
theorem lst_cases (r : Rw) (p : Int) : (∃ k, k < r.2.1 ∧ sgAt r k = p ∧ (∀ j, j < k → sgAt r j ≠ p) ∧ lst r p = some (r.1 + k)) ∨ ((∀ j, j < r.2.1 → sgAt r j ≠ p) ∧ lst r p = none) := by
  rw [lst_eq]
  cases h : (List.range r.2.1).find? fun i => sgAt r i == p with
  | none =>
    rw [List.find?_range_eq_none] at h
    exact .inr ⟨fun j hj => by have := h j hj; simpa using this, rfl⟩
  | some k =>
    rw [List.find?_range_eq_some] at h
    obtain ⟨h1, h2, h3⟩ := h
    exact .inl ⟨k, List.mem_range.1 h2, by simpa using h1, fun j hj => by have := h3 j hj; simpa using this, rfl⟩
def CdPost (r : Rw) (p : Int) (w0 : World) (e : Ending) (w' : World) : Prop := ∃ z, e = .returned (.tuple #[.int .i64 z, .bool (lst r p).isSome]) ∧ (∀ c, lst r p = some c → z = c) ∧ Below w0.heap.size w0 w'
theorem Code_any (x : Rw × Sl) (p : Int) (hp : -2147483648 ≤ p ∧ p < 2147483648) (hx : RwOk x.1) (w : World) (hs : SgOk w w.heap.size x) :
    Calls Tryd.prog 92 #[.agg (rV x).toArray, .int .i32 p] w (CdPost x.1 p w) := by
  have hnn := fun (w : World) (a : Option Addr) (n c : Nat) => run_neq_slice_nil_any (P := Tryd.prog) w 71 _ a n c 0 0 Tryd.underlying71
  obtain ⟨⟨f, n, t, q⟩, v⟩ := x
  obtain ⟨g1, g2, g3⟩ := hx
  simp only at g1 g2 g3
  cases q with
  | none =>
    obtain rfl : v = (none, 0, 0) := hs
    simp only at g3
    have hlc := lst_cases (f, n, t, none) p
    simp only [sgAt] at hlc
    unfold CdPost rV slV
    simp only
    have e1 : ∀ z : Int, -2147483648 ≤ z ∧ z ≤ 2147483647 → IntKind.i64.wrap z = z := fun z h => IntWalk.i64_in _ (by omega)
    by_cases hpt : t ≤ p
    · have e2 : IntKind.i32.wrap (p - t) = p - t := IntWalk.i32_in _ (by omega)
      have e3 : IntKind.i64.wrap (p - t) = p - t := e1 _ (by omega)
      have e4 : IntKind.i64.wrap ((f : Int) + (p - t)) = (f : Int) + (p - t) := IntWalk.i64_in _ (by omega)
      have hr : (lst (f, n, t, none) p).isSome = decide (p - t < n) ∧ ∀ c, lst (f, n, t, none) p = some c → (f : Int) + (p - t) = c := by
        rcases hlc with ⟨k, h1, h2, _, h4⟩ | ⟨h1, h2⟩
        · rw [h4]
          exact ⟨by rw [decide_eq_true (by omega)]; rfl, fun c h => by injection h with h; omega⟩
        · rw [h2]
          refine ⟨?_, fun c h => by cases h⟩
          have : ¬ p - t < n := fun h => h1 (p - t).toNat (by omega) (by omega)
          rw [decide_eq_false this]; rfl
      obtain ⟨hr1, hr2⟩ := hr
      have Hr2 := Lib.hid hr2
      rw [hr1]
      clear hlc hr1 hr2
      go_enter Tryd.func92, Tryd.ntmps92
      go_wp2_with fail
      go_quiet (fail)
      go_wp2_with fail
      go_ret2
      exact ⟨_, rfl, Hr2.out, below_drewN ((Below.refl _ w).alloc (Nat.le_refl _) _) _⟩
    · have hr : lst (f, n, t, none) p = none := by
        rcases hlc with ⟨k, h1, h2, _, h4⟩ | ⟨h1, h2⟩
        · omega
        · exact h2
      have Hr := Lib.hid hr
      rw [hr]
      clear hlc hr
      go_enter Tryd.func92, Tryd.ntmps92
      go_wp2_with fail
      have hd : decide (t ≤ p) = false := decide_eq_false (by omega)
      have hB0 : ∀ o, Below w.heap.size w (w.alloc o).drew := fun o => ((Below.refl _ w).alloc (Nat.le_refl _) _).drew
      refine wp_region_lin (fun w' => w'.cell? ⟨w.heap.size, 0, none⟩ = some (.int .i64 (f : Int)) ∧ w'.cell? ⟨w.heap.size, 2, none⟩ = some (.int .i32 t)) [(0, true), (1, true), (2, true), (3, true), (4, true), (5, true), (6, true), (7, true), (8, true), (9, true), (10, true), (11, true), (12, true), (13, true), (14, true), (15, true), (16, true), (17, true), (18, true), (19, true), (20, true), (21, true), (22, true), (23, true)] (by kernel_rfl) (by kernel_rfl) (by kernel_rfl) (Nat.le_of_ble_eq_true rfl) (fun _ _ d _ _ h => by cases d <;> exact h) (by constructor <;> (show (w.alloc _).cell? _ = _; rw [cell_of_row _ w.heap.size _ _ 73 (0, 0) (heap_alloc_new w _)]; rfl)) ?_
      repeat (first
        | (refine lin_skip rfl (by rfl) ?_; try simp only [Act.put, List.setIfInBounds_toArray, List.set_cons_zero, List.set_cons_succ]; try rw [hd])
        | (refine' lin_pure rfl (by rfl) _ (fun W hSw => _) _; rotate_left; (obtain ⟨sw0, sw2⟩ := hSw; go_simp; try with_reducible rfl); try simp only [Act.put, List.setIfInBounds_toArray, List.set_cons_zero, List.set_cons_succ]; try rw [hd]))
      refine lin_nil ?_
      go_wp2_with fail
      go_ret2
      exact ⟨_, rfl, (fun c h => by cases h), hB0 _⟩
  | some l =>
    obtain ⟨ad, cp, cs, fr, hv, hcp, hbk, hsp, hh, hcs⟩ := hs
    have hcell : ∀ j, j < l.length → w.cell? (ad.add j) = some (.int .i32 (l.getD j 0)) := fun j hj => (sg_cell hsp hh j).trans (hcs j hj)
    clear hcs hh
    simp only at hv hcp hcell g3
    obtain ⟨rfl, g4, _⟩ := g3
    subst hv
    subst g4
    obtain ⟨bk, off, sp⟩ := ad
    simp only at hsp hbk
    subst hsp
    have hadd : ∀ j, (⟨bk, off, none⟩ : Addr).add j = ⟨bk, off + j, none⟩ := fun j => by unfold Addr.add; split <;> simp_all
    have hget : ∀ j, j < l.length → l[j]! = l.getD j 0 := fun j hj => by rw [getElem!_pos l j hj, List.getD, List.getElem?_eq_getElem hj]; rfl
    have hlc := lst_cases (f, l.length, 0, some l) p
    simp only [sgAt] at hlc
    have hix : ∀ (o : Obj), Calls Tryd.prog 110 #[.slice (some ⟨bk, off, none⟩) l.length cp, .int .i32 p] (w.alloc o) fun e w' => e = .returned (.int .i64 (Lib.idxBy (fun x y : Int => x == y) (l.take l.length) p)) ∧ (w.alloc o) = w' := fun o => by
      have := AnyE.slices_Index Tryd.laysIdx (Value.int .i32) (fun x y => x == y) (EqlAt.int _ _ .i32) bk off l.length cp l p (w.alloc o) (Nat.le_refl _) (by omega) (fun j hj => by
        rw [World.cell?_alloc_lt _ _ _ hbk, hget j hj, ← hadd]; exact hcell j hj)
      change Calls Tryd.prog 110 _ _ _ at this
      exact this.mono fun e w' h => ⟨h.1, h.2.symm⟩
    unfold CdPost rV slV
    simp only
    have hr : ∃ z : Int, Lib.idxBy (fun x y : Int => x == y) (l.take l.length) p = z ∧ -1 ≤ z ∧ z < 1048576 ∧ (lst (f, l.length, 0, some l) p).isSome = decide (0 ≤ z) ∧ ∀ c, lst (f, l.length, 0, some l) p = some c → (f : Int) + z = c := by
      rcases hlc with ⟨k, h1, h2, h3, h4⟩ | ⟨h1, h2⟩
      · refine ⟨k, Lib.idxBy_hit _ l l.length k p (by omega) (Nat.le_refl _) ?_ ?_, by omega, by omega, ?_, ?_⟩
        · rw [hget k (by omega), h2]; simp
        · intro j hj
          rw [hget j (by omega)]
          have := h3 j hj
          exact beq_eq_false_iff_ne.2 (fun e => this e.symm)
        · rw [h4, decide_eq_true (by omega)]; rfl
        · intro c hc
          rw [h4] at hc
          injection hc with hc
          omega
      · refine ⟨-1, Lib.idxBy_miss _ l l.length p (fun j hj => ?_), by omega, by omega, ?_, ?_⟩
        · rw [hget j hj]
          have := h1 j (by omega)
          exact beq_eq_false_iff_ne.2 (fun e => this e.symm)
        · rw [h2]; rfl
        · intro c hc
          rw [h2] at hc; cases hc
    obtain ⟨z, hz, hz1, hz2, hz3, hz4⟩ := hr
    rw [hz] at hix
    have Hz4 := Lib.hid hz4
    have e1 : IntKind.i64.wrap ((f : Int) + z) = (f : Int) + z := IntWalk.i64_in _ (by omega)
    rw [hz3]
    clear hlc hz hz3 hz4 hcell hget hadd
    go_enter Tryd.func92, Tryd.ntmps92
    go_wp2_with (go_at_call 110; refine (hix _).mono ?_; rintro e w1 ⟨rfl, rfl⟩)
    go_ret2
    exact ⟨_, rfl, Hz4.out, (Below.refl _ w).alloc (Nat.le_refl _) _⟩
end Go.Proofs.YtpnjandlpbjddabDoor

/- Contract of byFrom: the rows stand by rising codes; condition: they are the call's own. -/
set_option maxRecDepth 100000
set_option maxHeartbeats 1000000
namespace Go.Proofs.YtpnjandlpbjddabDoor
open Go Go.RowKit

theorem cmp_row (x y : Rw × Sl) (W : World) :
    Calls Tryd.prog 66 #[.agg (rV x).toArray, .agg (rV y).toArray] W fun e w' => e = .returned (.int .i64 (Lib.compareInt (x.1.1 : Int) (y.1.1 : Int))) ∧ ∃ q os', w' = Go.Sort.grow (W.drewN q) os' := by
  have hcon := fun W' => Tryd.cmp_Compare_int (x.1.1 : Int) (y.1.1 : Int) W'
  generalize Lib.compareInt (x.1.1 : Int) (y.1.1 : Int) = r at hcon ⊢
  have hcon : ∀ W, Calls Tryd.prog 29 #[.int .i64 (x.1.1 : Int), .int .i64 (y.1.1 : Int)] W fun e w' => e = .returned (.int .i64 r) ∧ W = w' := fun W => (hcon W).mono fun e w' h => ⟨h.1, h.2.symm⟩
  unfold rV slV
  go_enter Tryd.func66, Tryd.ntmps66
  go_wp2_with (go_at_call 29; refine (hcon _).mono ?_; rintro e w' ⟨rfl, rfl⟩)
  go_ret
  exact ⟨rfl, 0, _, by rw [Go.Sort.alloc_eq_grow, Go.Sort.alloc_eq_grow, Go.Sort.grow_grow]; rfl⟩
def cfR (x y : Rw × Sl) : Int := Lib.compareInt (x.1.1 : Int) (y.1.1 : Int)
theorem lt_row (x y : Rw × Sl) : ltOf cfR x y = decide (x.1.1 < y.1.1) := by
  unfold ltOf cfR Lib.compareInt
  by_cases h1 : x.1.1 < y.1.1
  · simp [h1]
  · by_cases h2 : y.1.1 < x.1.1 <;> simp [h1, h2]
theorem swo_row : Go.Sort.SWO (ltOf cfR) :=
  ⟨fun x => by rw [lt_row]; simp, fun x y z h1 h2 => by rw [lt_row] at *; simp at *; omega, fun x y z h1 h2 => by rw [lt_row] at *; simp at *; omega⟩
theorem cmp_lays (blk off size : Nat) (w : World) : CmpLays Tryd.prog 66 #[] rV 4 cfR blk off size w :=
  fun _ _ _ _ x y => cmp_row x y _
theorem rV_one : ∀ x : Rw × Sl, ∀ v ∈ rV x, v.oneCell' = true := fun x v hv => by
  simp only [rV, slV, List.mem_cons, List.not_mem_nil, or_false] at hv
  rcases hv with rfl | rfl | rfl | rfl <;> rfl
theorem flat4_at {α : Type} (f : α → List Value) (hf : ∀ x, (f x).length = 4) : ∀ (l : List α) (k i : Nat) (x : α), l[k]? = some x → i < 4 → (l.flatMap f)[k * 4 + i]? = (f x)[i]?
  | [], k, i, x, h, _ => by simp at h
  | a :: l, 0, i, x, h, hi => by
    simp at h; subst h
    rw [List.flatMap_cons, Nat.zero_mul, Nat.zero_add, List.getElem?_append_left (by rw [hf]; exact hi)]
  | a :: l, k + 1, i, x, h, hi => by
    rw [List.flatMap_cons, List.getElem?_append_right (by rw [hf]; omega), hf, show (k + 1) * 4 + i - 4 = k * 4 + i by omega]
    exact flat4_at f hf l k i x (by simpa using h) hi
theorem flat4_len {α : Type} (f : α → List Value) (hf : ∀ x, (f x).length = 4) : ∀ l : List α, (l.flatMap f).length = l.length * 4
  | [] => rfl
  | a :: l => by rw [List.flatMap_cons, List.length_append, hf, flat4_len f hf l, List.length_cons]; omega
theorem flat_get (ts : List (Rw × Sl)) (j : Nat) (hj : j < ts.length * 4) : some (Go.Sort.flatK rV 4 ts.toArray)[j]! = (ts.flatMap rV)[j]? := by
  have hk : j / 4 < ts.length := by omega
  have he : j = j / 4 * 4 + j % 4 := by omega
  rw [Go.Sort.get_flatK _ _ _ _ (by simpa using hj)]
  conv => rhs; rw [he]
  rw [flat4_at rV rV_len ts (j / 4) (j % 4) ts[j / 4] (List.getElem?_eq_getElem hk) (Nat.mod_lt _ (by omega))]
  have e1 : ts.toArray[j / 4]! = ts[j / 4] := by simp [hk]
  have hlt : j % 4 < (rV ts[j / 4]).length := by rw [rV_len]; exact Nat.mod_lt _ (by omega)
  rw [e1, List.getElem?_eq_getElem hlt, getElem!_pos (rV ts[j / 4]) (j % 4) hlt]
/-- Rows that the call owns, as the sort reads them. -/
theorem holds_rows {w : World} {base g cap : Nat} {e : TypeId} {ts : List (Rw × Sl)} (h : w.ownsRow base e 4 (.slice (some ⟨g, 0, none⟩) ts.length cap) ts.length (ts.flatMap rV)) : Go.Sort.HoldsK rV 4 w g 0 ts.toArray := by
  intro j hj
  have hj' : j < ts.length * 4 := by simpa using hj
  have hl : (ts.flatMap rV).length = ts.length * 4 := h.1
  refine ⟨?_, ?_⟩
  · rw [Nat.zero_add, h.cellAt j hj', ← flat_get ts j hj']; rfl
  · rw [Nat.zero_add]; exact h.frozenAt j
theorem grown_rows {w : World} {g n : Nat} {os : Array Obj} (d : Array (Rw × Sl)) : w.grownBy (sortWorldK rV 4 w g 0 n d os) (some g) := by
  unfold sortWorldK Go.Sort.putRowK
  refine ⟨rfl, rfl, rfl, by simp, fun k hk hne => ?_⟩
  rw [Go.Sort.heap_grow_old _ _ (by simpa using hk)]
  have : g ≠ k := fun e => hne (by rw [e])
  simp [Go.Sort.putRow, Go.Sort.mapBlock, Go.Sort.ahead, Array.getElem?_modify, this]
/-- Rows as they lie behind a slice that stays. -/
def RdsR (w : World) (B : Nat) (A : Option Addr) (rs : List (Rw × Sl)) : Prop := Reads w B 4 A rs.length (rs.flatMap rV) ∧ ∀ ad, A = some ad → ad.spot = none
def SfPost (base g : Nat) (rs : List (Rw × Sl)) (w0 : World) (e : Ending) (w' : World) : Prop :=
  e = .returned (.tuple #[]) ∧ ∃ rs' : List (Rw × Sl), rs'.Perm rs ∧ rs'.Pairwise (fun a b => a.1.1 ≤ b.1.1) ∧ (∀ j u, (rs'.flatMap rV)[j]? = some u → w'.cell? ⟨g, j, none⟩ = some u) ∧ w0.heap.size ≤ w'.heap.size ∧ Below base w0 w' ∧ w0.grownBy w' (some g)
theorem Sort_any (base g cap : Nat) (rs : List (Rw × Sl)) (w : World) (h : w.ownsRow base 73 4 (.slice (some ⟨g, 0, none⟩) rs.length cap) rs.length (rs.flatMap rV)) (hbase : base ≤ w.heap.size) (hn : rs.length < 4611686018427387904) :
    Calls Tryd.prog 65 #[.slice (some ⟨g, 0, none⟩) rs.length cap, .func (.func 66) #[] #[]] w (SfPost base g rs w) := by
  have hlt := (h.lt g rfl)
  have eg : ∀ args w, (callFunc 66 args).run Tryd.prog w = .ok (.enter 66 args) w := enters_of Tryd.func66 (by kernel_rfl) rfl
  have hH := holds_rows h
  have hcon := AnyQ.slices_SortFunc Tryd.laysSort 4 Tryd.isAgg73 Tryd.sizeOf73 rV rV_len rV_one cfR swo_row 66 #[] g 0 cap rs.toArray w eg (cmp_lays g 0 rs.toArray.size w) hH hlt.2 (by simpa using hn)
  change Calls Tryd.prog 65 _ _ _ at hcon
  have hsz : rs.toArray.size = rs.length := by simp
  rw [hsz] at hcon
  refine hcon.mono ?_
  rintro e w' ⟨rfl, d', n, os, hp, hs, rfl⟩
  obtain ⟨hp1, _, hp3⟩ := hp
  have hd : d'.size = rs.length := by rw [hp1, hsz]
  have hx1 : d'.extract 0 rs.length = d' := by rw [← hd]; simp
  have hx2 : rs.toArray.extract 0 rs.length = rs.toArray := by simp
  rw [hx1, hx2] at hp3
  have hK := holdsK_sortWorldK rV 4 w g 0 n rs.toArray d' os hlt.2 hH (by rw [hd, hsz])
  refine ⟨rfl, d'.toList, by simpa using hp3, ?_, fun j u hu => ?_, ?_, ?_, grown_rows d'⟩
  · rw [List.pairwise_iff_getElem]
    intro i j hi hj hij
    simp only [Array.length_toList] at hi hj
    have := hs i j (Nat.zero_le _) hij (by omega)
    rw [lt_row, decide_eq_false_iff_not, getElem!_pos d' j hj, getElem!_pos d' i hi] at this
    simp only [Array.getElem_toList]
    omega
  · have hl : (d'.toList.flatMap rV).length = d'.size * 4 := by rw [flat4_len rV rV_len]; simp
    have hj : j < d'.size * 4 := by
      rcases Nat.lt_or_ge j (d'.size * 4) with h1 | h1
      · exact h1
      · rw [List.getElem?_eq_none (by omega)] at hu; cases hu
    have h1 := (hK j (by rw [Go.Sort.size_flatK]; exact hj)).1
    have h2 := flat_get d'.toList j (by simpa using hj)
    rw [hu] at h2
    rw [Nat.zero_add] at h1
    rw [h1, ← h2]
    rfl
  · exact (grown_rows (os := os) (n := n) d').size
  · exact (Below.refl base w).grown (grown_rows d') hbase fun k hk => by injection hk with hk; omega
end Go.Proofs.YtpnjandlpbjddabDoor

/- append(row, make([]T, m)...) at a row of the call's own, one cell an element. Over any program; condition: at most 2,000,000 elements. -/
set_option maxRecDepth 100000
set_option maxHeartbeats 1000000
namespace Go.Proofs.YtpnjandlpbjddabDoor
open Go Go.RowKit Go.Lib

theorem zero_cells (zv : Value) (m : Nat) : Builtin.zeroCells #[zv] m = (List.replicate m zv).toArray := by
  unfold Builtin.zeroCells
  apply Array.ext
  · simp
  · intro i h1 h2
    simp [Nat.mod_one]
section
variable {P : Program}
theorem run_append_zeros (w : World) (base : Nat) (t tn ty e : TypeId) (i : TypeInfo) (z zv : Value) (ht : P.underlying t = some (.slice e)) (htn : P.underlying tn = some (.int .i64)) (hi : P.info? e = some i) (hz : i.zero = some z)
    (hsize : i.size = 1) (hby : i.bytes = 1) (hzc : z.cells = #[zv]) (h1 : zv.oneCell' = true) (v : Value) (n : Nat) (xs : List Value) (hown : w.ownsRow base e 1 v n xs) (m : Nat) (hm : 0 < m) (hN : n + m ≤ 2000000) (hbase : base ≤ w.heap.size) :
    ∃ v' w', (Builtin.append_ #[t, tn] ty #[v, .int .i64 m]).run P w = .ok v' w' ∧ w'.ownsRow base e 1 v' (n + m) (xs ++ List.replicate m zv) ∧ w.grownBy w' v.ownBlock := by
  have hlen : (xs ++ List.replicate m zv).length = (n + m) * 1 := by rw [List.length_append, hown.1]; simp
  have hw : IntKind.i64.wrap (m : Int) = m := by rw [IntKind.wrap_i64]; omega
  have hneg : ¬ ((m : Int) < 0) := by omega
  have h48i : ¬ (281474976710656 < (m : Int)) := by omega
  have hm0 : ¬ m = 0 := by omega
  have h1a : ∀ u ∈ List.replicate m zv, u.oneCell' = true := fun u hu => by rw [List.eq_of_mem_replicate hu]; exact h1
  have grown : ∀ (old : Nat), old < n + m → ∀ (row : Option Nat),
      (w.drew.alloc (.cells (xs.toArray ++ (List.replicate m zv).toArray ++ Builtin.zeroCells z.cells (grownCap w (n + m) old e - (n + m))) e)).ownsRow base e 1
        (.slice (some ⟨w.heap.size, 0, none⟩) (n + m) (grownCap w (n + m) old e)) (n + m) (xs ++ List.replicate m zv) ∧
      w.grownBy (w.drew.alloc (.cells (xs.toArray ++ (List.replicate m zv).toArray ++ Builtin.zeroCells z.cells (grownCap w (n + m) old e - (n + m))) e)) row := by
    intro old ho row
    have hge := grownCap_ge w (n + m) old e
    have hcm : grownCap w (n + m) old e ≤ maxLen := grownCap_le_maxLen w (n + m) old e (by unfold maxLen; omega)
    refine ⟨⟨hlen, .inr ⟨w.heap.size, _, _, rfl, hbase, heap_alloc_new w.drew _, hge, hcm, ?_, ?_⟩⟩, ⟨rfl, rfl, rfl, by simp, fun k hk _ => Go.heap_alloc_old w.drew _ hk⟩⟩
    · rw [hzc]
      simp only [Array.size_append, List.size_toArray, size_zeroCells, hown.1, List.length_replicate]
      simp; omega
    · simp only [Array.toList_append, List.append_assoc]
      rw [← List.append_assoc, ← hlen]
      exact List.take_left
  rcases hown.2 with ⟨rfl, rfl⟩ | ⟨g, cap, cur, rfl, hbg, hg, hnc, hcm, hcs, htake⟩
  · have hx : xs = [] := List.eq_nil_of_length_eq_zero (by simpa using hown.1)
    subst hx
    have hr := run_append_nil_zeros (P := P) w t tn ty e i z .i64 .i64 ht htn hi hz m hm (by omega) (by omega) (by rw [hby]; omega)
    have hgr := grown 0 (by omega) (Value.ownBlock (.slice none 0 0))
    rw [hzc, zero_cells] at hr
    simp only [Nat.zero_add, List.nil_append, Array.empty_append, hzc] at hgr ⊢
    exact ⟨_, _, hr, hgr.1, hgr.2⟩
  · by_cases hroom : n + m ≤ cap
    · have hfit : n * 1 + (List.replicate m zv).length ≤ cur.size := by rw [hcs]; simp; omega
      have hst := run_storeCells_at P g (n * 1) e (List.replicate m zv) 0 cur w hg (by simpa using hfit) h1a
      simp only [Nat.add_zero] at hst
      have hr : (Builtin.append_ #[t, tn] ty #[.slice (some ⟨g, 0, none⟩) n cap, .int .i64 m]).run P w = .ok (.slice (some ⟨g, 0, none⟩) (n + m) cap) (w.setRow g (cur.toList.take (n * 1) ++ List.replicate m zv ++ cur.toList.drop (n * 1 + (List.replicate m zv).length)).toArray) := by
        simp [Builtin.append_, run_underlying ht, run_underlying htn, sizeOf, typeInfo, zeroValue, hi, hz, hsize, hby, hzc, zero_cells, asInt, asIntOf, hw, hneg, h48i, hroom, hm0, Addr.add_lit, Nat.mul_one] at hst ⊢
        rw [hst]
        rfl
      refine ⟨_, _, hr, ⟨hlen, .inr ⟨g, cap, _, rfl, hbg, setRow_heap w g cur _ e _ hg, hroom, hcm, ?_, ?_⟩⟩, ⟨rfl, rfl, rfl, by simp, fun k _ hk => setRow_other w g k _ (fun e => hk (by simp [Value.ownBlock, e]))⟩⟩
      · simp only [List.size_toArray, List.length_append, List.length_take, List.length_drop, Array.length_toList]
        omega
      · rw [htake, ← hlen]
        exact List.take_left
    · have holds : ∀ j u, xs[j]? = some u → w.cell? ((⟨g, 0, none⟩ : Addr).add j) = some u := hown.cells (g := g) rfl
      have hn : ¬ (n + m ≤ cap) := by omega
      have h63' : ¬ (9223372036854775807 < ((n : Int) + (m : Int))) := by omega
      have h48' : ¬ (281474976710656 < Builtin.nextslicecap (n + m) cap) := by
        have := growslice_fits (need := n + m) (bytes := 1) (by omega : cap < n + m) (by omega)
        omega
      have hfo := run_firstCells_some (P := P) w.drew 1 n ⟨g, 0, none⟩ n cap xs hown.1 (by simpa using holds)
      have hr : (Builtin.append_ #[t, tn] ty #[.slice (some ⟨g, 0, none⟩) n cap, .int .i64 m]).run P w = .ok (.slice (some ⟨w.heap.size, 0, none⟩) (n + m) (grownCap w (n + m) cap e)) (w.drew.alloc (.cells (xs.toArray ++ (List.replicate m zv).toArray ++ Builtin.zeroCells z.cells (grownCap w (n + m) cap e - (n + m))) e)) := by
        simp [Builtin.append_, run_underlying ht, run_underlying htn, sizeOf, typeInfo, zeroValue, hi, hz, hsize, hby, hzc, zero_cells, asInt, asIntOf, hw, hneg, h48i, hn, h63', h48', hm0, Question.forced, hfo, newRow, grownCap]
      have hgr := grown cap (by omega) (Value.ownBlock (.slice (some ⟨g, 0, none⟩) n cap))
      exact ⟨_, _, hr, hgr.1, hgr.2⟩
end
end Go.Proofs.YtpnjandlpbjddabDoor

/- Contract of byFrom; what stands of codes seen. Condition: the rows are the call's own. -/
set_option maxRecDepth 100000
set_option maxHeartbeats 1000000
namespace Go.Proofs.YtpnjandlpbjddabDoor
open Go Go.RowKit

def BfPost (base : Nat) (v : Value) (rs : List (Rw × Sl)) (w0 : World) (e : Ending) (w' : World) : Prop :=
  e = .returned (.tuple #[]) ∧ ∃ A c, ∃ rs' : List (Rw × Sl), v = .slice A rs.length c ∧ rs.length ≤ c ∧ rs'.Perm rs ∧ rs'.Pairwise (fun a b => a.1.1 ≤ b.1.1) ∧ RdsR w' w'.heap.size A rs' ∧ Below base w0 w' ∧ w0.grownBy w' v.ownBlock
theorem ByFrom_any (base : Nat) (v : Value) (rs : List (Rw × Sl)) (w : World) (h : w.ownsRow base 73 4 v rs.length (rs.flatMap rV)) (hbase : base ≤ w.heap.size) (hn : rs.length < 4611686018427387904) :
    Calls Tryd.prog 45 #[v] w (BfPost base v rs w) := by
  have hfin : ∃ A c, v = .slice A rs.length c ∧ rs.length ≤ c ∧ Calls Tryd.prog 65 #[.slice A rs.length c, .func (.func 66) #[] #[]] w (BfPost base v rs w) := by
    by_cases h0 : rs = []
    · subst h0
      obtain ⟨A, c, hv, hc, _⟩ := Reads.of_own h
      refine ⟨A, c, hv, hc, ?_⟩
      have := AnyF.slices_SortFunc_none Tryd.laysSort A c (.func (.func 66) #[] #[]) w
      change Calls Tryd.prog 65 _ _ _ at this
      refine this.mono ?_
      rintro e w' ⟨rfl, rfl⟩
      refine ⟨rfl, A, c, [], hv, hc, List.Perm.refl _, by simp, ⟨Reads.none_, ?_⟩, Below.refl _ _, ⟨rfl, rfl, rfl, Nat.le_refl _, fun _ _ _ => rfl⟩⟩
      intro ad hA
      subst hA
      rw [hv] at h
      exact own_spot h
    · have hpos : 0 < rs.length := List.length_pos_iff.2 h0
      rcases h.2 with ⟨_, h2⟩ | ⟨g, cap, cur, rfl, hbg, hg, hnc, hcm, hcs, htake⟩
      · omega
      · refine ⟨_, cap, rfl, hnc, ?_⟩
        refine (Sort_any base g cap rs w h hbase hn).mono ?_
        rintro e w' ⟨rfl, rs', h1, h2, h3, h4, h5, h6⟩
        have hlt := (h.lt g rfl).2
        refine ⟨rfl, _, cap, rs', rfl, hnc, h1, h2, ⟨⟨flat4_len rV rV_len rs', fun _ => ⟨_, rfl, by show g < _; omega, fun j u hu => ?_⟩⟩, fun ad had => by injection had with had; subst had; rfl⟩, h5, h6⟩
        rw [addr_eq rfl]
        simpa using h3 j u hu
  obtain ⟨A, c, hv, hc, hs⟩ := hfin
  generalize hP : BfPost base v rs w = P at *
  subst hv
  go_enter Tryd.func45, Tryd.ntmps45
  go_wp2_with (go_at_call 65; refine hs.mono ?_; intro e w1 hp1; have he : e = .returned (.tuple #[]) := (by rw [← hP] at hp1; exact hp1.1); subst he)
  go_end0
  exact hp1
/-- Codes from one on, up to another one, seen. -/
def setB (l : List Bool) (a b : Nat) : List Bool := l.mapIdx fun j x => x || (decide (a ≤ j) && decide (j < b))
theorem setB_len (l : List Bool) (a b : Nat) : (setB l a b).length = l.length := by simp [setB]
theorem setB_get (l : List Bool) (a b c : Nat) (hc : c < l.length) : (setB l a b)[c]? = some (l[c] || (decide (a ≤ c) && decide (c < b))) := by
  unfold setB
  rw [List.getElem?_mapIdx, List.getElem?_eq_getElem hc]; rfl
theorem setB_none (l : List Bool) (a : Nat) : setB l a a = l := by
  apply List.ext_getElem?
  intro j
  unfold setB
  rw [List.getElem?_mapIdx]
  cases l[j]? with
  | none => rfl
  | some x =>
    simp only [Option.map_some]
    congr 1
    by_cases h : a ≤ j
    · rw [decide_eq_false (by omega : ¬ j < a)]; simp
    · rw [decide_eq_false h]; simp
theorem setB_next (l : List Bool) (a c : Nat) (h : a ≤ c) : setB l a (c + 1) = (setB l a c).set c true := by
  apply List.ext_getElem?
  intro j
  rw [List.getElem?_set]
  unfold setB
  rw [List.getElem?_mapIdx, List.getElem?_mapIdx, List.length_mapIdx]
  by_cases hj : c = j
  · subst hj
    rw [if_pos rfl]
    by_cases hl : c < l.length
    · rw [if_pos hl, List.getElem?_eq_getElem hl]
      simp only [Option.map_some]
      rw [decide_eq_true h, decide_eq_true (by omega : c < c + 1)]; simp
    · rw [if_neg hl, List.getElem?_eq_none (by omega)]; rfl
  · rw [if_neg hj]
    cases l[j]? with
    | none => rfl
    | some x =>
      simp only [Option.map_some]
      have : decide (j < c + 1) = decide (j < c) := decide_eq_decide.2 (by omega)
      rw [this]
/-- The codes that rows have are just those seen. -/
def SeenOk (bits : List Bool) (acc : List Rw) : Prop := (∀ r ∈ acc, r.1 + r.2.1 ≤ bits.length) ∧ ∀ c, c < bits.length → bits[c]? = some (acc.any fun q => decide (q.1 ≤ c) && decide (c < q.1 + q.2.1))
theorem seen_nil : SeenOk [] [] := ⟨by simp, by simp⟩
theorem seen_more {bits : List Bool} {acc : List Rw} (h : SeenOk bits acc) (m : Nat) : SeenOk (bits ++ List.replicate m false) acc := by
  obtain ⟨h1, h2⟩ := h
  refine ⟨fun r hr => by have := h1 r hr; simp; omega, fun c hc => ?_⟩
  by_cases hl : c < bits.length
  · rw [List.getElem?_append_left hl]; exact h2 c hl
  · simp only [List.length_append, List.length_replicate] at hc
    rw [List.getElem?_append_right (by omega), List.getElem?_replicate, if_pos (by omega)]
    congr 1
    symm
    rw [List.any_eq_false]
    intro q hq
    have := h1 q hq
    simp; omega
theorem seen_hit {bits : List Bool} {acc : List Rw} {r : Rw} {c : Nat} (h : SeenOk bits acc) (hc : r.1 ≤ c ∧ c < r.1 + r.2.1) (hb : bits[c]? = some true) : ovl acc r = true := by
  have hl : c < bits.length := by
    rcases Nat.lt_or_ge c bits.length with h1 | h1
    · exact h1
    · rw [List.getElem?_eq_none h1] at hb; cases hb
  rw [h.2 c hl] at hb
  injection hb with hb
  obtain ⟨q, hq, hq2⟩ := List.any_eq_true.1 hb
  refine List.any_eq_true.2 ⟨q, hq, ?_⟩
  simp only [Bool.and_eq_true, decide_eq_true_eq] at hq2 ⊢
  omega
theorem seen_miss {bits : List Bool} {acc : List Rw} {r : Rw} (h : SeenOk bits acc) (hok : ∀ q ∈ acc, 1 ≤ q.2.1) (hr : 1 ≤ r.2.1) (he : r.1 + r.2.1 ≤ bits.length) (hb : ∀ c, r.1 ≤ c → c < r.1 + r.2.1 → bits[c]? = some false) :
    ovl acc r = false ∧ SeenOk (setB bits r.1 (r.1 + r.2.1)) (acc ++ [r]) := by
  constructor
  · rw [ovl, List.any_eq_false]
    intro q hq hc
    simp only [Bool.and_eq_true, decide_eq_true_eq] at hc
    have h1 := hok q hq
    have h2 := hb (max q.1 r.1) (by omega) (by omega)
    rw [h.2 _ (by omega)] at h2
    injection h2 with h2
    have h3 := List.any_eq_false.1 h2 q hq
    simp only [Bool.and_eq_true, decide_eq_true_eq, not_and] at h3
    omega
  · refine ⟨fun q hq => ?_, fun c hc => ?_⟩
    · rw [setB_len]
      rcases List.mem_append.1 hq with h1 | h1
      · exact h.1 q h1
      · simp only [List.mem_singleton] at h1; subst h1; exact he
    · rw [setB_len] at hc
      rw [setB_get _ _ _ _ hc]
      have h2 := h.2 c hc
      rw [List.getElem?_eq_getElem hc] at h2
      injection h2 with h2
      rw [h2, List.any_append]
      simp
end Go.Proofs.YtpnjandlpbjddabDoor
