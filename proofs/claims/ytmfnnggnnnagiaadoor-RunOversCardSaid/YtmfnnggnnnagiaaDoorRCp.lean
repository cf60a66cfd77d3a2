/- A slice of pieces that is handed in, as a list of pieces with their signs; no condition. -/
import Derived.Test.YtmfnnggnnnagiaaDoorRT
import Derived.Deep.Slices
import Derived.Deep.Fields
import Derived.ChangeSame
set_option maxRecDepth 100000
set_option maxHeartbeats 1000000
namespace Go.Proofs.YtmfnnggnnnagiaaDoor
open Go Go.RowKit Go.ChangeShapes Go.WideShapes Go.Deep

theorem all_list {α : Type} {R : Nat → α → Prop} : ∀ n : Nat, (∀ i, i < n → ∃ p, R i p) → ∃ l : List α, l.length = n ∧ ∀ i p, l[i]? = some p → R i p
  | 0, _ => ⟨[], rfl, by simp⟩
  | n + 1, h => by
    obtain ⟨l, hl, hR⟩ := all_list n fun i hi => h i (by omega)
    obtain ⟨p, hp⟩ := h n (by omega)
    refine ⟨l ++ [p], by simp [hl], fun i q hq => ?_⟩
    rcases Nat.lt_or_ge i n with h1 | h1
    · rw [List.getElem?_append_left (by omega)] at hq
      exact hR i q hq
    · have hlt := (List.getElem?_eq_some_iff.1 hq).1
      simp only [List.length_append, List.length_singleton] at hlt
      obtain rfl : i = n := by omega
      rw [List.getElem?_append_right (by omega), hl, Nat.sub_self] at hq
      simp at hq
      subst hq
      exact hp
theorem pce_of (f c : Int) (t : Int) (s : ByteArray) (hf : -9223372036854775808 ≤ f ∧ f < 9223372036854775808) (ht : -2147483648 ≤ t ∧ t < 2147483648) (hc : -9223372036854775808 ≤ c ∧ c < 9223372036854775808) : ∃ q, PceOk (f, t, c, s, q) := by
  rcases good_or_bad s with ⟨ps, h⟩ | h
  · exact ⟨some ps, h, hf, ht, hc⟩
  · exact ⟨none, h, hf, ht, hc⟩
theorem wf32 {z : Int} (h : (Lit.int .i32 z).wf = true) : -2147483648 ≤ z ∧ z < 2147483648 := by
  simp only [Lit.wf, Bool.and_eq_true, decide_eq_true_eq] at h
  have h1 : (-2147483648 : Int) ≤ z := h.1
  have h2 : z ≤ (2147483647 : Int) := h.2
  omega
section
variable {H : Type} {enc : TypeId × Value → H} {w : World} {base : Nat} {spare : Nat → Bool} {held : Bool}
theorem open_pcs {fuel : Nat} {cs : List Value} {x : DataW H × List MemPlace} (h : DataW.trod enc Tryd.prog w base spare held fuel 22 cs = some x) :
    ∃ (A : Option Addr) (c : Nat) (l : List Pce), cs = [.slice A l.length c] ∧ (∀ p ∈ l, PceOk p) ∧ PcsL w w.heap.size A l := by
  have hu := Tryd.underlying55
  have hC : Tryd.prog.cellsOf 55 = 4 := by kernel_rfl
  have i64b : ∀ z : Int, (Lit.int .i64 z).wf = true → -9223372036854775808 ≤ z ∧ z < 9223372036854775808 := fun z hz => by
    simp only [Lit.wf, Bool.and_eq_true, decide_eq_true_eq] at hz
    have h1 : (-9223372036854775808 : Int) ≤ z := hz.1
    have h2 : z ≤ (9223372036854775807 : Int) := hz.2
    omega
  have i32b : ∀ z : Int, (Lit.int .i32 z).wf = true → -2147483648 ≤ z ∧ z < 2147483648 := fun z hz => by
    simp only [Lit.wf, Bool.and_eq_true, decide_eq_true_eq] at hz
    have h1 : (-2147483648 : Int) ≤ z := hz.1
    have h2 : z ≤ (2147483647 : Int) := hz.2
    omega
  rcases open_slice Tryd.underlying22 h with ⟨hc, _⟩ | ⟨a, len, cap, m, n, D, Pl, hc, _, hle, _, hm, _, hall⟩
  · exact ⟨none, 0, [], hc, by simp, Reads.none_⟩
  · have hlm : len ≤ m := by rw [hm]; split <;> omega
    rw [hC] at hall
    obtain ⟨l, hl, hR⟩ := all_list (R := fun i p => PceOk p ∧ ∀ j, j < 4 → w.cell? (a.add (i * 4 + j)) = (pV p)[j]?) len fun i hi => by
      obtain ⟨cs', h1, h2⟩ := hall i (by omega)
      obtain ⟨_, h3, h4⟩ := World.cells?_some h1
      obtain ⟨xs, k, _, _, _, hxl, hg⟩ := DataW.trod_struct hu h2
      match cs', h3 with
      | [c0, c1, c2, c3], _ =>
        have g0 := hg 0 _ rfl
        have g1 := hg 1 _ rfl
        have g2 := hg 2 _ rfl
        have g3 := hg 3 _ rfl
        have o0 : Tryd.prog.cellsOf 3 = 1 := by kernel_rfl
        have o1 : Tryd.prog.cellsOf 21 = 1 := by kernel_rfl
        have o2 : Tryd.prog.cellsOf 9 = 1 := by kernel_rfl
        change DataW.trod enc Tryd.prog w base spare held k 3 ((([c0, c1, c2, c3] : List Value).drop 0).take (Tryd.prog.cellsOf 3)) = xs[0]? at g0
        rw [o0] at g0
        change DataW.trod enc Tryd.prog w base spare held k 3 [c0] = xs[0]? at g0
        change DataW.trod enc Tryd.prog w base spare held k 21 ((([c0, c1, c2, c3] : List Value).drop 1).take (Tryd.prog.cellsOf 21)) = xs[1]? at g1
        rw [o1] at g1
        change DataW.trod enc Tryd.prog w base spare held k 21 [c1] = xs[1]? at g1
        change DataW.trod enc Tryd.prog w base spare held k 3 ((([c0, c1, c2, c3] : List Value).drop 2).take (Tryd.prog.cellsOf 3)) = xs[2]? at g2
        rw [o0] at g2
        change DataW.trod enc Tryd.prog w base spare held k 3 [c2] = xs[2]? at g2
        change DataW.trod enc Tryd.prog w base spare held k 9 ((([c0, c1, c2, c3] : List Value).drop 3).take (Tryd.prog.cellsOf 9)) = xs[3]? at g3
        rw [o2] at g3
        change DataW.trod enc Tryd.prog w base spare held k 9 [c3] = xs[3]? at g3
        have hx : ∀ j, j < 4 → ∃ y, xs[j]? = some y := fun j hj => ⟨_, List.getElem?_eq_getElem (by rw [hxl]; exact hj)⟩
        obtain ⟨y0, e0⟩ := hx 0 (by omega)
        obtain ⟨y1, e1⟩ := hx 1 (by omega)
        obtain ⟨y2, e2⟩ := hx 2 (by omega)
        obtain ⟨y3, e3⟩ := hx 3 (by omega)
        rw [e0] at g0
        rw [e1] at g1
        rw [e2] at g2
        rw [e3] at g3
        obtain ⟨z0, d0, _, f0⟩ := DataW.trod_int Tryd.underlying3 g0
        obtain ⟨z1, d1, _, f1⟩ := DataW.trod_int Tryd.underlying21 g1
        obtain ⟨z2, d2, _, f2⟩ := DataW.trod_int Tryd.underlying3 g2
        obtain ⟨s3, d3, _, f3⟩ := DataW.trod_string Tryd.underlying9 g3
        obtain ⟨q, hq⟩ := pce_of z0 z2 z1 s3 (i64b _ f0) (i32b _ f1) (i64b _ f2)
        refine ⟨(z0, z1, z2, s3, q), hq, fun j hj => ?_⟩
        have h5 := h4 j hj
        rw [Go.Deep.add_add] at h5
        rw [h5]
        injection d0 with d0
        injection d1 with d1
        injection d2 with d2
        injection d3 with d3
        subst d0; subst d1; subst d2; subst d3
        rfl
    subst hl
    refine ⟨some a, cap, l, hc, fun p hp => ?_, flat4_len pV pV_len l, fun hn => ⟨a, rfl, ?_, fun j u hu => ?_⟩⟩
    · obtain ⟨i, hi⟩ := List.getElem?_of_mem hp
      exact (hR i p hi).1
    · have h0 := (hR 0 _ (List.getElem?_eq_getElem hn)).2 0 (by omega)
      have := World.block_lt_of_cell? _ _ (h0.trans (by rfl))
      rwa [block_of_add] at this
    · have hj : j < l.length * 4 := by rw [← flat4_len pV pV_len l]; exact (List.getElem?_eq_some_iff.1 hu).1
      have hj4 : j / 4 < l.length := by omega
      have h1 := flat4_at pV pV_len l (j / 4) (j % 4) _ (List.getElem?_eq_getElem hj4) (by omega)
      rw [show j / 4 * 4 + j % 4 = j by omega] at h1
      rw [h1] at hu
      have h2 := (hR (j / 4) _ (List.getElem?_eq_getElem hj4)).2 (j % 4) (by omega)
      rw [show j / 4 * 4 + j % 4 = j by omega] at h2
      rw [h2, hu]
end
end Go.Proofs.YtmfnnggnnnagiaaDoor
