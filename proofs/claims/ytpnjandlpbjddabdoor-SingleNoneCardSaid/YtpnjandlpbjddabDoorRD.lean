/- Contracts of a row's part, and of a piece as a row; conditions: a text of less than 2^20 bytes. -/
import Derived.Test.YtpnjandlpbjddabDoorRC
import Derived.Test.YtpnjandlpbjddabDoorP3
import Derived.Deep.Heap
set_option maxRecDepth 100000
set_option maxHeartbeats 1000000
namespace Go.Proofs.YtpnjandlpbjddabDoor
open Go Go.RowKit

/-- A new box stands while what lies above it turns. -/
theorem bx {w wr : World} {T : TypeId} {cs : Array Value} (hb : Below (w.alloc (.cells cs T)).heap.size (w.alloc (.cells cs T)) wr) :
    (∀ j, wr.cell? ⟨w.heap.size, j, none⟩ = cs[j]?) ∧ (∀ j, wr.frozen? ⟨w.heap.size, j, none⟩ = false) ∧ w.heap.size < wr.heap.size := by
  have h1 := hb.size
  simp only [World.size_alloc] at h1
  have hl : w.heap.size < (w.alloc (.cells cs T)).heap.size := by simp
  have e := heap_alloc_new w (.cells cs T)
  refine ⟨fun j => ?_, fun j => ?_, by omega⟩
  · rw [hb.cell (p := ⟨w.heap.size, j, none⟩) hl, cell_of_row _ w.heap.size j _ T (0, 0) e]
  · rw [hb.frozen (p := ⟨w.heap.size, j, none⟩) hl, frozen_of_row _ w.heap.size j _ T e]
theorem bx4 {w wr : World} {T : TypeId} {a b c d : Value} (hb : Below (w.alloc (.cells #[a, b, c, d] T)).heap.size (w.alloc (.cells #[a, b, c, d] T)) wr) :
    (wr.cell? ⟨w.heap.size, 0, none⟩ = some a ∧ wr.cell? ⟨w.heap.size, 1, none⟩ = some b ∧ wr.cell? ⟨w.heap.size, 2, none⟩ = some c ∧ wr.cell? ⟨w.heap.size, 3, none⟩ = some d) ∧ (wr.frozen? ⟨w.heap.size, 0, none⟩ = false ∧ wr.frozen? ⟨w.heap.size, 1, none⟩ = false ∧ wr.frozen? ⟨w.heap.size, 2, none⟩ = false ∧ wr.frozen? ⟨w.heap.size, 3, none⟩ = false) := by
  obtain ⟨h1, h2, _⟩ := bx hb
  exact ⟨⟨h1 0, h1 1, h1 2, h1 3⟩, h2 0, h2 1, h2 2, h2 3⟩
theorem addr_add (a : Addr) (i j : Nat) : (a.add i).add j = a.add (i + j) := by
  unfold Addr.add
  by_cases h1 : i = 0
  · subst h1; simp
  · by_cases h2 : j = 0
    · subst h2; simp
    · rw [if_neg h1, if_neg h2, if_neg (by omega)]; simp [Nat.add_assoc]
def partR (r : Rw) (a b : Nat) : Rw := (a, b - a, match r.2.2.2 with
  | none => (r.2.2.1 + ((a - r.1 : Nat) : Int), none)
  | some l => (0, some ((l.drop (a - r.1)).take (b - a))))
theorem part_ok {r : Rw} {a b : Nat} (h : RwOk r) (h1 : r.1 ≤ a) (h2 : a < b) (h3 : b ≤ r.1 + r.2.1) : RwOk (partR r a b) := by
  obtain ⟨f, n, t, q⟩ := r
  obtain ⟨g1, g2, g3⟩ := h
  simp only at g1 g2 g3 h1 h3
  cases q with
  | none =>
    simp only at g3
    refine ⟨by simp [partR]; omega, by simp [partR]; omega, ?_⟩
    simp only [partR]
    omega
  | some l =>
    simp only at g3
    refine ⟨by simp [partR]; omega, by simp [partR]; omega, ?_⟩
    simp only [partR]
    refine ⟨trivial, by rw [List.length_take, List.length_drop]; omega, fun p hp => g3.2.2 p (List.mem_of_mem_drop (List.mem_of_mem_take hp))⟩
theorem part_sg {r : Rw} {a b c : Nat} (h1 : r.1 ≤ a) (h2 : a ≤ c) (h3 : c < b) : sgAt (partR r a b) (c - a) = sgAt r (c - r.1) := by
  obtain ⟨f, n, t, q⟩ := r
  simp only at h1
  cases q with
  | none => simp only [partR, sgAt]; omega
  | some l =>
    simp only [partR, sgAt, List.getD]
    rw [List.getElem?_take_of_lt (by omega), List.getElem?_drop, show a - f + (c - a) = c - f by omega]
theorem part_mem {r : Rw} {a b : Nat} (h1 : r.1 ≤ a) (h3 : b ≤ r.1 + r.2.1) {x : Pr} : x ∈ prs (partR r a b) ↔ a ≤ x.1 ∧ x.1 < b ∧ x ∈ prs r := by
  have e1 : (partR r a b).1 = a := rfl
  have e2 : (partR r a b).2.1 = b - a := rfl
  rw [mem_prs, mem_prs, e1, e2]
  constructor
  · rintro ⟨g1, g2, g3⟩
    rw [part_sg h1 g1 (by omega)] at g3
    exact ⟨g1, by omega, by omega, by omega, g3⟩
  · rintro ⟨g1, g2, g3, g4, g5⟩
    exact ⟨g1, by omega, by rw [part_sg h1 g1 g2]; exact g5⟩
def PtPost (x : Rw × Sl) (a b : Nat) (w0 : World) (e : Ending) (w' : World) : Prop := ∃ v, e = .returned (.agg (rV (partR x.1 a b, v)).toArray) ∧ SgOk w' w0.heap.size (partR x.1 a b, v) ∧ Below w0.heap.size w0 w'
theorem Part_any (x : Rw × Sl) (a b : Nat) (hx : RwOk x.1) (h1 : x.1.1 ≤ a) (h2 : a < b) (h3 : b ≤ x.1.1 + x.1.2.1) (w : World) (hs : SgOk w w.heap.size x) :
    Calls Tryd.prog 57 #[.agg (rV x).toArray, .int .i64 (a : Int), .int .i64 (b : Int)] w (PtPost x a b w) := by
  have hsg := fun (W : World) (hb : Below w.heap.size w W) => Sign_any x a hx ⟨h1, by omega⟩ W ((hs.below hb).more hb.size)
  obtain ⟨⟨f, n, t, q⟩, v⟩ := x
  obtain ⟨g1, g2, g3⟩ := hx
  simp only at g1 g2 g3 h1 h3 hsg
  have e1 : IntKind.i64.wrap ((b : Int) - a) = (b : Int) - a := IntWalk.i64_in _ (by omega)
  have c1 : (b : Int) - a = ((b - a : Nat) : Int) := by omega
  have hnn := fun (w : World) (a : Option Addr) (n c : Nat) => run_neq_slice_nil_any (P := Tryd.prog) w 71 _ a n c 0 0 Tryd.underlying71
  cases q with
  | none =>
    obtain rfl : v = (none, 0, 0) := hs
    unfold rV slV at hsg ⊢
    unfold PtPost rV slV
    simp only [partR] at hsg ⊢
    have hr : sgAt (f, n, t, none) (a - f) = t + ((a - f : Nat) : Int) := rfl
    rw [hr] at hsg
    go_enter Tryd.func57, Tryd.ntmps57
    go_wp2_with (go_at_call 41; refine (hsg _ (((((Below.refl _ w).alloc (Nat.le_refl _) _).alloc (by simp) _).alloc (by simp; omega) _))).mono ?_; rintro e w1 ⟨rfl, hb1⟩; have hB1 := below_a1 hb1; obtain ⟨⟨b0, b1, b2, b3⟩, f0, f1, f2, f3⟩ := bx4 hb1; obtain ⟨⟨c0, c1, c2, c3⟩, k0, k1, k2, k3⟩ := bx4 (below_a1 hb1); simp only [World.size_alloc] at b0 b1 b2 b3 f0 f1 f2 f3 c0 c1 c2 c3 k0 k1 k2 k3)
    refine bodyPost_ret (v := .agg #[.int .i64 (a : Int), .int .i64 ((b - a : Nat) : Int), .int .i32 (t + ((a - f : Nat) : Int)), .slice none 0 0]) (by simp [results, Tryd.results57, go_sem, c0, c1, c2, c3]) rfl ?_
    refine ⟨(none, 0, 0), rfl, rfl, ?_⟩
    exact (((((below_a1 (below_a1 (below_a1 hb1))).setCell (by simp; omega) _).setCell (by simp) _).setCell (by simp) _).setCell (by simp) _).setCell (by simp) _
  | some l =>
    obtain ⟨ad, cp, cs, fr, hv, hcp, hbk, hsp, hh, hcs⟩ := hs
    simp only at hv hcp hcs g3
    obtain ⟨rfl, g4, _⟩ := g3
    subst hv
    have e2 : IntKind.i64.wrap ((a : Int) - f) = (a : Int) - f := IntWalk.i64_in _ (by omega)
    have c2 : (a : Int) - f = ((a - f : Nat) : Int) := by omega
    have e3 : IntKind.i64.wrap ((b : Int) - f) = (b : Int) - f := IntWalk.i64_in _ (by omega)
    have c3 : (b : Int) - f = ((b - f : Nat) : Int) := by omega
    have hfin : SgOk w w.heap.size ((a, b - a, 0, some ((l.drop (a - f)).take (b - a))), (some (ad.add (a - f)), b - f - (a - f), cp - (a - f))) := by
      have hbk2 : (ad.add (a - f)).block = ad.block := by rw [addr_eq hsp]
      have hof2 : (ad.add (a - f)).off = ad.off + (a - f) := by rw [addr_eq hsp]
      refine ⟨ad.add (a - f), cp - (a - f), cs, fr, ?_, ?_, by rw [hbk2]; exact hbk, by rw [addr_eq hsp], by rw [hbk2]; exact hh, fun j hj => ?_⟩
      · simp only [List.length_take, List.length_drop]
        rw [show min (b - a) (l.length - (a - f)) = b - f - (a - f) by omega]
      · simp only [List.length_take, List.length_drop]; omega
      · simp only [List.length_take, List.length_drop] at hj
        have := hcs (a - f + j) (by omega)
        rw [hof2, Nat.add_assoc, this]
        simp only [List.getD]
        rw [List.getElem?_take_of_lt (by omega), List.getElem?_drop]
    have Hfin := Lib.hid hfin
    have g5 : a - f ≤ b - f := by omega
    have g6 : b - f ≤ cp := by omega
    have g7 : a - f ≤ cp := by omega
    clear hcs hh hfin hsg
    unfold PtPost rV slV
    simp only [partR]
    go_enter Tryd.func57, Tryd.ntmps57
    go_wp2_with fail
    refine bodyPost_ret (v := .agg #[.int .i64 (a : Int), .int .i64 ((b - a : Nat) : Int), .int .i32 0, .slice (some (ad.add (a - f))) (b - f - (a - f)) (cp - (a - f))]) (by simp [results, Tryd.results57, go_sem]) rfl ?_
    have hB : ∀ o1 o2 o3, Below w.heap.size w (((w.alloc o1).alloc o2).alloc o3) := fun o1 o2 o3 => (((Below.refl _ w).alloc (Nat.le_refl _) _).alloc (by simp) _).alloc (by simp; omega) _
    exact ⟨(some (ad.add (a - f)), b - f - (a - f), cp - (a - f)), rfl, Hfin.out.below (hB _ _ _), hB _ _ _⟩
def pV (p : Pce) : List Value := [.int .i64 p.1, .int .i32 p.2.1, .int .i64 p.2.2.1, .string p.2.2.2.1]
theorem pV_len (p : Pce) : (pV p).length = 4 := rfl
def noRow : Value := .agg #[.int .i64 0, .int .i64 0, .int .i32 0, .slice none 0 0]
def PrPost (p : Pce) (w0 : World) (e : Ending) (w' : World) : Prop := (rowOf p = none ∧ e = .returned (.tuple #[noRow, .bool false]) ∨ ∃ r v, rowOf p = some r ∧ e = .returned (.tuple #[.agg (rV (r, v)).toArray, .bool true]) ∧ SgOk w' w'.heap.size (r, v)) ∧ Below w0.heap.size w0 w'
theorem inside_iff (f n : Int) : insideB f n = true ↔ 0 ≤ f ∧ 1 ≤ n ∧ f + n ≤ 1048576 := by unfold insideB; exact decide_eq_true_iff
theorem cell_set {w : World} {k j : Nat} {p : Addr} (h : p.block ≠ k) (v : Value) : (w.setCell ⟨k, j, none⟩ v).cell? p = w.cell? p :=
  World.cell?_setCell_other _ _ _ _ (fun e => h (by rw [← e]))
theorem heap_set {w : World} {k j g : Nat} (h : g ≠ k) (v : Value) : (w.setCell ⟨k, j, none⟩ v).heap[g]? = w.heap[g]? := Go.Deep.blk_setCell_other w _ v g h
theorem sg_box {w : World} {k : Nat} {ps : List Int} {A : Option Addr} {c f : Nat} (hnum : Nums w w.heap.size .i32 A ps) (hcap : ps.length ≤ c) (hl : 1 ≤ ps.length) (hfr : ∀ ad, A = some ad → ad.block ≠ k ∧ ad.spot = none ∧ ∃ cs fr, w.heap[ad.block]? = some (.cells cs 21 fr) ∧ ∀ j, j < ps.length → cs[ad.off + j]? = some (.int .i32 (ps.getD j 0))) (v0 v1 v2 v3 : Value) (o : Obj) :
    SgOk (((((w.setCell ⟨k, 0, none⟩ v0).setCell ⟨k, 1, none⟩ v1).setCell ⟨k, 2, none⟩ v2).setCell ⟨k, 3, none⟩ v3).alloc o) (((((w.setCell ⟨k, 0, none⟩ v0).setCell ⟨k, 1, none⟩ v1).setCell ⟨k, 2, none⟩ v2).setCell ⟨k, 3, none⟩ v3).alloc o).heap.size ((f, ps.length, 0, some ps), (A, ps.length, c)) := by
  obtain ⟨ad, rfl, hbk, _⟩ := hnum.at_ (i := 0) (by omega)
  obtain ⟨hfa, hsp, cs, fr, hh, hcs⟩ := hfr ad rfl
  refine ⟨ad, c, cs, fr, rfl, hcap, by simp; omega, hsp, ?_, hcs⟩
  rw [Below.heap_alloc _ _ _ (by simp; omega), heap_set hfa, heap_set hfa, heap_set hfa, heap_set hfa]
  exact hh
theorem PRow_any (p : Pce) (hp : PceOk p) (hs : p.2.2.2.1.size ≤ 1000000) (w : World) (hT : Tabs w) :
    Calls Tryd.prog 44 #[.agg (pV p).toArray] w (PrPost p w) := by
  have HN : Hid (rowOf p = none → ∀ w', Below w.heap.size w w' → PrPost p w (.returned (.tuple #[noRow, .bool false])) w') := Lib.hid fun h w' hb => ⟨.inl ⟨h, rfl⟩, hb⟩
  have HY : Hid (∀ r v w', rowOf p = some r → SgOk w' w'.heap.size (r, v) → Below w.heap.size w w' → PrPost p w (.returned (.tuple #[.agg (rV (r, v)).toArray, .bool true])) w') := Lib.hid fun r v w' h hg hb => ⟨.inr ⟨r, v, h, rfl, hg⟩, hb⟩
  generalize PrPost p w = P at *
  unfold noRow at HN
  obtain ⟨f, t, n, s, q⟩ := p
  obtain ⟨hg, hf, ht, hn⟩ := hp
  simp only at hg hf ht hn hs
  have hB2 : ∀ o1 o2, Below w.heap.size w ((w.alloc o1).alloc o2) := fun o1 o2 => ((Below.refl _ w).alloc (Nat.le_refl _) _).alloc (by simp) _
  have hrow : rowOf (f, t, n, s, q) = if s.size ≠ 0 then
      match q with
      | some ps => if 0 ≤ f ∧ f + ps.length ≤ 1048576 then some (f.toNat, ps.length, 0, some ps) else none
      | none => none
    else if 0 ≤ f ∧ 1 ≤ n ∧ f + n ≤ 1048576 ∧ scalarB t = true ∧ scalarB (t + n - 1) = true ∧ (t < 55296 ↔ t + n - 1 < 55296) then some (f.toNat, n.toNat, t, none)
    else none := rfl
  unfold pV
  by_cases hz : s.size = 0
  · rw [if_neg (by simpa using hz)] at hrow
    have hem : s.toList.isEmpty = true := by
      rw [ByteArray.toList_eq, show s.data.toList = [] from List.eq_nil_of_length_eq_zero (by simpa using hz)]; rfl
    have hin := fun w => Inside_any f n hf w
    have hsc := fun w => Scalar_any t w
    clear hg
    cases hi : insideB f n with
    | false =>
      have hno : ¬ (0 ≤ f ∧ 1 ≤ n ∧ f + n ≤ 1048576) := fun h => by rw [(inside_iff f n).2 h] at hi; cases hi
      rw [if_neg (fun h => hno ⟨h.1, h.2.1, h.2.2.1⟩)] at hrow
      have Hf := Lib.hid (HN.out hrow)
      rw [hi] at hin
      clear HN HY hrow hno
      go_enter Tryd.func44, Tryd.ntmps44
      go_wp2_with (go_at_call 63; refine (hin _).mono ?_; rintro e w1 ⟨rfl, rfl⟩)
      refine bodyPost_ret (v := .tuple #[noRow, .bool false]) (by simp [noRow, results, Tryd.results44, go_sem]) rfl ?_
      exact Hf.out _ (hB2 _ _)
    | true =>
      have hyes := (inside_iff f n).1 hi
      rw [hi] at hin
      cases hst : scalarB t with
      | false =>
        rw [if_neg (fun h => by rw [hst] at h; cases h.2.2.2.1)] at hrow
        have Hf := Lib.hid (HN.out hrow)
        rw [hst] at hsc
        clear HN HY hrow
        go_enter Tryd.func44, Tryd.ntmps44
        go_wp2_with (first | (go_at_call 63; refine (hin _).mono ?_; rintro e w1 ⟨rfl, rfl⟩) | (go_at_call 64; refine (hsc _).mono ?_; rintro e w1 ⟨rfl, rfl⟩))
        refine bodyPost_ret (v := .tuple #[noRow, .bool false]) (by simp [noRow, results, Tryd.results44, go_sem]) rfl ?_
        exact Hf.out _ (hB2 _ _)
      | true =>
        rw [hst] at hsc
        have h1 := scalar_rng hst
        have e1 : IntKind.i64.wrap (n - 1) = n - 1 := IntWalk.i64_in _ (by omega)
        have e2 : IntKind.i32.wrap (n - 1) = n - 1 := IntWalk.i32_in _ (by omega)
        have e3 : IntKind.i32.wrap (t + (n - 1)) = t + (n - 1) := IntWalk.i32_in _ (by omega)
        have hsl := fun w => Scalar_any (t + (n - 1)) w
        have e4 : t + n - 1 = t + (n - 1) := by omega
        rw [e4] at hrow
        cases hsl2 : scalarB (t + (n - 1)) with
        | false =>
          rw [if_neg (fun h => by rw [hsl2] at h; cases h.2.2.2.2.1)] at hrow
          have Hf := Lib.hid (HN.out hrow)
          rw [hsl2] at hsl
          clear HN HY hrow e4
          go_enter Tryd.func44, Tryd.ntmps44
          go_wp2_with (first | (go_at_call 63; refine (hin _).mono ?_; rintro e w1 ⟨rfl, rfl⟩) | (go_at_call 64; first | (refine (hsc _).mono ?_; rintro e w1 ⟨rfl, rfl⟩; clear hsc) | (refine (hsl _).mono ?_; rintro e w1 ⟨rfl, rfl⟩)))
          refine bodyPost_ret (v := .tuple #[noRow, .bool false]) (by simp [noRow, results, Tryd.results44, go_sem]) rfl ?_
          exact Hf.out _ (hB2 _ _)
        | true =>
          rw [hsl2] at hsl
          by_cases hgap : t < 55296 ↔ t + (n - 1) < 55296
          · have hgb : (!decide (t < 55296) == decide (t + (n - 1) < 55296)) = false := by simp [hgap]
            rw [if_pos ⟨hyes.1, hyes.2.1, hyes.2.2, hst, hsl2, hgap⟩] at hrow
            have hf2 : ((f.toNat : Nat) : Int) = f := by omega
            have hn2 : ((n.toNat : Nat) : Int) = n := by omega
            have Hf := Lib.hid (HY.out _ (none, 0, 0) · hrow rfl)
            unfold rV slV at Hf
            simp only [hf2, hn2] at Hf
            clear HN HY hrow e4 hf2 hn2 hyes hgap
            go_enter Tryd.func44, Tryd.ntmps44
            go_wp2_with (first | (go_at_call 63; refine (hin _).mono ?_; rintro e w1 ⟨rfl, rfl⟩) | (go_at_call 64; first | (refine (hsc _).mono ?_; rintro e w1 ⟨rfl, rfl⟩; clear hsc) | (refine (hsl _).mono ?_; rintro e w1 ⟨rfl, rfl⟩)))
            refine bodyPost_ret (v := .tuple #[.agg #[.int .i64 f, .int .i64 n, .int .i32 t, .slice none 0 0], .bool true]) (by simp [results, Tryd.results44, go_sem]) rfl ?_
            exact Hf.out _ (hB2 _ _)
          · have hgb : (!decide (t < 55296) == decide (t + (n - 1) < 55296)) = true := by
              have a : t < 55296 := by omega
              have b : ¬ t + (n - 1) < 55296 := by omega
              simp [a, b]
            rw [if_neg (fun h => hgap h.2.2.2.2.2)] at hrow
            have Hf := Lib.hid (HN.out hrow)
            clear HN HY hrow e4 hgap
            go_enter Tryd.func44, Tryd.ntmps44
            go_wp2_with (first | (go_at_call 63; refine (hin _).mono ?_; rintro e w1 ⟨rfl, rfl⟩) | (go_at_call 64; first | (refine (hsc _).mono ?_; rintro e w1 ⟨rfl, rfl⟩; clear hsc) | (refine (hsl _).mono ?_; rintro e w1 ⟨rfl, rfl⟩)))
            refine bodyPost_ret (v := .tuple #[noRow, .bool false]) (by simp [noRow, results, Tryd.results44, go_sem]) rfl ?_
            exact Hf.out _ (hB2 _ _)
  · rw [if_pos (by simpa using hz)] at hrow
    have hem : s.toList.isEmpty = false := by
      have := (show s.data.toList.length = s.size by simp)
      rw [ByteArray.toList_eq]
      generalize s.data.toList = l at *
      cases l with
      | nil => simp at this; omega
      | cons _ _ => rfl
    cases q with
    | none =>
      obtain ⟨k, hbad⟩ := hg
      have hin : ∀ w, Calls Tryd.prog 63 #[.int .i64 f, .int .i64 0] w fun e w' => e = .returned (.bool false) ∧ w = w' := fun w => by
        have := Inside_any f 0 hf w
        rw [show insideB f 0 = false from decide_eq_false (by omega)] at this
        exact this
      have hc := fun w hT => Count_bad s k hbad (by omega) w hT
      have Hf := Lib.hid (HN.out hrow)
      clear HN HY hrow
      go_enter Tryd.func44, Tryd.ntmps44
      go_wp2_with (first | (go_at_call 63; refine (hin _).mono ?_; rintro e w1 ⟨rfl, rfl⟩) | (go_at_call 24; refine (hc _ (tabs_alloc (tabs_alloc hT _) _)).mono ?_; rintro e w1 ⟨rfl, hb1⟩; obtain ⟨⟨b0, b1, b2, b3⟩, f0, f1, f2, f3⟩ := bx4 hb1; obtain ⟨⟨c0, c1, c2, c3⟩, k0, k1, k2, k3⟩ := bx4 (below_a1 hb1); simp only [World.size_alloc] at b0 b1 b2 b3 f0 f1 f2 f3))
      refine bodyPost_ret (v := .tuple #[noRow, .bool false]) (by simp [noRow, results, Tryd.results44, go_sem, b0, b1, b2, b3]) rfl ?_
      exact Hf.out _ (((((below_a1 (below_a1 hb1)).setCell (by simp) _).setCell (by simp) _).setCell (by simp) _).setCell (by simp) _)
    | some ps =>
      have hg : Good s ps := hg
      have hl1 := good_pos hg hz
      have hl2 := hg.len
      have hin := fun w => Inside_any f ps.length hf w
      have hc := fun w hT => Count_good s ps hg (by omega) w hT
      simp only at hrow
      cases hi : insideB f ps.length with
      | false =>
        rw [if_neg (fun h => by rw [(inside_iff f ps.length).2 ⟨h.1, by omega, h.2⟩] at hi; cases hi)] at hrow
        rw [hi] at hin
        have Hf := Lib.hid (HN.out hrow)
        clear HN HY hrow
        go_enter Tryd.func44, Tryd.ntmps44
        go_wp2_with (first | (go_at_call 63; refine (hin _).mono ?_; rintro e w1 ⟨rfl, rfl⟩) | (go_at_call 24; refine (hc _ (tabs_alloc (tabs_alloc hT _) _)).mono ?_; rintro e w1 ⟨rfl, hb1⟩; obtain ⟨⟨b0, b1, b2, b3⟩, f0, f1, f2, f3⟩ := bx4 hb1; obtain ⟨⟨c0, c1, c2, c3⟩, k0, k1, k2, k3⟩ := bx4 (below_a1 hb1); simp only [World.size_alloc] at b0 b1 b2 b3 f0 f1 f2 f3))
        refine bodyPost_ret (v := .tuple #[noRow, .bool false]) (by simp [noRow, results, Tryd.results44, go_sem, b0, b1, b2, b3]) rfl ?_
        exact Hf.out _ (((((below_a1 (below_a1 hb1)).setCell (by simp) _).setCell (by simp) _).setCell (by simp) _).setCell (by simp) _)
      | true =>
        have hyes := (inside_iff f ps.length).1 hi
        rw [if_pos ⟨hyes.1, hyes.2.2⟩] at hrow
        rw [hi] at hin
        have hf2 : ((f.toNat : Nat) : Int) = f := by omega
        have hpt := fun w hT => Points_own s ps hg (by omega) w hT
        have Hf := Lib.hid (fun v w' => HY.out _ v w' hrow)
        unfold rV slV at Hf
        simp only [hf2] at Hf
        clear HN HY hrow hf2 hyes
        go_enter Tryd.func44, Tryd.ntmps44
        go_wp2_with (first | (go_at_call 63; refine (hin _).mono ?_; rintro e w1 ⟨rfl, rfl⟩) | (go_at_call 24; refine (hc _ (tabs_alloc (tabs_alloc hT _) _)).mono ?_; rintro e w1 ⟨rfl, hb1⟩; have hz1 := hb1.size; simp only [World.size_alloc] at hz1; obtain ⟨⟨b0, b1, b2, b3⟩, f0, f1, f2, f3⟩ := bx4 hb1; obtain ⟨⟨c0, c1, c2, c3⟩, k0, k1, k2, k3⟩ := bx4 (below_a1 hb1); simp only [World.size_alloc] at b0 b1 b2 b3 f0 f1 f2 f3) | (go_at_call 59; refine (hpt _ (Tabs_below hT (below_a1 (below_a1 hb1)) (Nat.le_refl _))).mono ?_; rintro e w2 ⟨A, c, rfl, hcap, hnum, hfr, hb2⟩; have hz2 := hb2.size; have g0 : w.heap.size < w2.heap.size := (by omega); have g1 : w.heap.size + 1 < w2.heap.size := (by omega); have d0 := (hb2.cell (p := ⟨w.heap.size, 0, none⟩) (by show w.heap.size < _; omega)).trans c0; have q0 := (hb2.cell (p := ⟨w.heap.size + 1, 0, none⟩) (by show w.heap.size + 1 < _; omega)).trans b0; have q1 := (hb2.cell (p := ⟨w.heap.size + 1, 1, none⟩) (by show w.heap.size + 1 < _; omega)).trans b1; have q2 := (hb2.cell (p := ⟨w.heap.size + 1, 2, none⟩) (by show w.heap.size + 1 < _; omega)).trans b2; have q3 := (hb2.cell (p := ⟨w.heap.size + 1, 3, none⟩) (by show w.heap.size + 1 < _; omega)).trans b3; have r0 := (hb2.frozen (p := ⟨w.heap.size + 1, 0, none⟩) (by show w.heap.size + 1 < _; omega)).trans f0; have r1 := (hb2.frozen (p := ⟨w.heap.size + 1, 1, none⟩) (by show w.heap.size + 1 < _; omega)).trans f1; have r2 := (hb2.frozen (p := ⟨w.heap.size + 1, 2, none⟩) (by show w.heap.size + 1 < _; omega)).trans f2; have r3 := (hb2.frozen (p := ⟨w.heap.size + 1, 3, none⟩) (by show w.heap.size + 1 < _; omega)).trans f3))
        refine bodyPost_ret (v := .tuple #[.agg #[.int .i64 f, .int .i64 ps.length, .int .i32 0, .slice A ps.length c], .bool true]) (by simp [results, Tryd.results44, go_sem, World.cell?_alloc_lt, g1, q0, q1, q2, q3]) rfl ?_
        refine Hf.out (A, ps.length, c) _ ?_ ?_
        · exact sg_box hnum hcap hl1 (fun ad e => ⟨by have := (hfr ad e).1; omega, (hfr ad e).2⟩) _ _ _ _ _
        · exact ((((((below_a1 (below_a1 hb1)).trans (hb2.mono (by omega))).setCell (by simp) _).setCell (by simp) _).setCell (by simp) _).setCell (by simp) _).alloc (by simp; omega) _
end Go.Proofs.YtpnjandlpbjddabDoor
