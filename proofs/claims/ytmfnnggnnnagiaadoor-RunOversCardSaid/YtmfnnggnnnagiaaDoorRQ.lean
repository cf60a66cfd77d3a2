/- Contracts of the reference's Put, Join, Over. -/
import Derived.BigQuiet
import Derived.Test.YtmfnnggnnnagiaaDoorRP
set_option maxRecDepth 100000
set_option maxHeartbeats 4000000
namespace Go.Proofs.YtmfnnggnnnagiaaDoor
open Go Go.RowKit

theorem rpair_info : (Tryd.prog.info? 40).map (fun i => (i.zero, i.size, i.bytes)) = some (some (.agg #[.int .i64 0, .int .i32 0]), 2, 16) := by kernel_rfl
def PuPost (L : List Pr) (w0 : World) (e : Ending) (w' : World) : Prop := ∃ A c, e = .returned (.slice A L.length c) ∧ L.length ≤ c ∧ PrsL w' w'.heap.size A L ∧ Below w0.heap.size w0 w'
def PuRel (l : List Pr) (p : Pr) (base : Nat) (W0 : World) (v d i : Value) (wr : World) : Prop := ∃ (k : Nat) (L : List Pr) (b : Bool), k ≤ l.length ∧ i = .int .i64 k ∧ d = .bool b ∧ (L ++ if b = true then l.drop k else putL (l.drop k) p) = putL l p ∧ L.length ≤ k + b.toNat ∧
  wr.ownsRow base 40 2 v L.length (L.flatMap prV) ∧ Below base W0 wr ∧ base ≤ wr.heap.size
theorem own2_snoc {w : World} {base : Nat} {T : TypeId} {v : Value} {L : List Pr} {x : Pr} (h : w.ownsRow base T 2 v (L.length + 1) (L.flatMap prV ++ [.int .i64 (x.1 : Int), .int .i32 x.2])) : w.ownsRow base T 2 v (L ++ [x]).length ((L ++ [x]).flatMap prV) := by
  rw [List.flatMap_append, List.length_append]
  simpa [prV] using h
section
variable {ops : Array Oper} {rest : List Oper} {o : Oper} {a : Act} {Q : Exit → Act → World → Prop}
/-- A pair behind a row of pairs of the call's own. -/
theorem app_pr (hgd : o.guard = none) (s x : Operand) (ho : o.op = .call { callee := .builtin .append, args := #[s, x], argTypes := #[33, 33] }) (base : Nat) (v : Value) (L : List Pr) (hs : a.eval s = v) (W : World) (y : Pr)
    (hown : W.ownsRow base 40 2 v L.length (L.flatMap prV)) (hbase : base ≤ W.heap.size) (hlen : L.length ≤ 16777216) (hx : a.eval x = .slice (some ⟨W.heap.size, 0, none⟩) 1 1) (c1 c2 : Int) (h1 : c1 = (y.1 : Int)) (h2 : c2 = y.2)
    (h : ∀ v' w', Hid (w'.ownsRow base 40 2 v' (L ++ [y]).length ((L ++ [y]).flatMap prV)) → Below base W w' → wpList Tryd.prog ops Q rest (a.put o.dst v') w') :
    wpList Tryd.prog ops Q (o :: rest) a (W.alloc (.cells #[.int .i64 c1, .int .i32 c2] 40)) := by
  obtain ⟨i0, hi, iz0, iz1, iz2⟩ := info_parts rpair_info
  subst h1
  subst h2
  refine wpList_append_own _ hgd s x 33 ho base 40 i0 _ 2 16 Tryd.underlying33 hi iz0 iz1 iz2 rfl (by decide) v L.length _ hs (hown.alloc _) ⟨W.heap.size, 0, none⟩ 1 1 [.int .i64 (y.1 : Int), .int .i32 y.2] hx rfl (two_new2 W _ _ _) ?_ (by unfold maxLen; omega) (by omega) (by simp; omega) ?_
  · intro u hu; simp only [List.mem_cons, List.not_mem_nil, or_false] at hu; rcases hu with rfl | rfl <;> rfl
  · intro v6 w6 hown6 hg6 _
    exact h v6 w6 (Lib.hid (own2_snoc hown6)) (below_grownOwn ((Below.refl _ W).alloc hbase _) (hown.alloc _) hg6 (by simp; omega) (Nat.le_refl _))
end
theorem putL_len (p : Pr) : ∀ l : List Pr, (putL l p).length = l.length + 1
  | [] => rfl
  | a :: l => by
    unfold putL
    split
    · simp
    · simp [putL_len p l]
theorem drop_at {α : Type} {l : List α} {k : Nat} {x : α} (h : l[k]? = some x) : l.drop k = x :: l.drop (k + 1) := by
  obtain ⟨h1, h2⟩ := List.getElem?_eq_some_iff.1 h
  rw [List.drop_eq_getElem_cons h1, h2]
theorem RPut_any (A : Option Addr) (c : Nat) (l : List Pr) (p : Pr) (hn : l.length ≤ 8388608) (w : World) (h : PrsL w w.heap.size A l) :
    Calls Tryd.prog 32 #[.slice A l.length c, .agg #[.int .i64 (p.1 : Int), .int .i32 p.2]] w (PuPost (putL l p) w) := by
  obtain ⟨i0, hi, iz0, iz1, iz2⟩ := info_parts rpair_info
  generalize hP : PuPost (putL l p) w = P at *
  obtain ⟨W, hW⟩ : ∃ W, W = w.alloc (.cells #[.int .i64 (p.1 : Int), .int .i32 p.2] 40) := ⟨_, rfl⟩
  have hbx : ∀ wr, Below (w.heap.size + 1) W wr → wr.cell? ⟨w.heap.size, 0, none⟩ = some (.int .i64 (p.1 : Int)) ∧ wr.cell? ⟨w.heap.size, 1, none⟩ = some (.int .i32 p.2) := fun wr hb => by
    have hh := heap_below (heap_alloc_new w (.cells #[.int .i64 (p.1 : Int), .int .i32 p.2] 40)) (by rw [← hW]; simpa [hW] using hb)
    constructor <;> (rw [cell_of_row _ w.heap.size _ _ _ _ hh]; rfl)
  have hbw : ∀ wr, Below (w.heap.size + 1) W wr → Below w.heap.size w wr := fun wr hb => ((Below.refl _ w).alloc (Nat.le_refl _) _).trans (by rw [← hW]; exact hb.mono (by omega))
  go_enter Tryd.func32, Tryd.ntmps32
  go_wp2_with fail
  rw [← hW]
  have hWs : W.heap.size = w.heap.size + 1 := by rw [hW]; simp
  go_loopw [5, 6, 7] (fun v d i wr => PuRel l p (w.heap.size + 1) W v d i wr) (fun _ _ i _ => l.length - (intOf i).toNat)
  case atStart => exact ⟨0, [], false, by omega, rfl, rfl, by simp, by simp, ⟨rfl, .inl ⟨rfl, rfl⟩⟩, Below.refl _ _, by omega⟩
  case round =>
    obtain ⟨k, L, b, hk, rfl, rfl, hL, hLl, ho, hb, hbs⟩ := hrel
    have hbox := hbx
    obtain ⟨b0, b1⟩ := hbx _ hb
    have HO := Lib.hid ho
    have HB := Lib.hid hb
    clear ho hb
    have hLl2 : L.length ≤ l.length + 1 := by cases b <;> simp only [Bool.toNat_true, Bool.toNat_false] at hLl <;> omega
    by_cases hlt : k < l.length
    · obtain ⟨x, hx⟩ : ∃ x, l[k]? = some x := ⟨_, List.getElem?_eq_getElem hlt⟩
      rw [drop_at hx] at hL
      obtain ⟨ad, rfl, hpr⟩ : ∃ ad, A = some ad ∧ ∀ wr, Below (w.heap.size + 1) W wr → wr.cell? (ad.add (k * 2)) = some (.int .i64 (x.1 : Int)) ∧ wr.cell? ⟨(ad.add (k * 2)).block, (ad.add (k * 2)).off + 1, none⟩ = some (.int .i32 x.2) := by
        obtain ⟨ad, hA, _⟩ := h.pair hx
        refine ⟨ad, hA, fun wr hb => ?_⟩
        obtain ⟨ad', hA', _, h1, h2, _⟩ := (h.below (hbw _ hb)).pair hx
        rw [hA] at hA'; injection hA' with hA'; subst hA'
        exact ⟨h1, h2⟩
      obtain ⟨y0, y1⟩ := hpr _ HB.out
      cases b with
      | true =>
        have HL := Lib.hid hL
        clear hL
        have hLl : L.length ≤ k + 1 := hLl
        go_wp2_with fail
        go_quiet (fail)
        go_wp2_with (at_builtin; refine app_pr rfl _ _ rfl (w.heap.size + 1) u5 L rfl (wr.drewN nq) x (show (wr.drewN nq).ownsRow _ _ _ _ _ _ from HO.out) hbs (by omega) rfl _ _ rfl rfl ?_; clear HO; intro v6 w6 HO6 hb6; have HB6 := Lib.hid ((below_drewN HB.out nq).trans hb6); have hz6 := HB6.out.size)
        go_wp2_with fail
        refine ⟨⟨k + 1, L ++ [x], true, by omega, by simp, rfl, ?_, by rw [List.length_append, List.length_singleton]; simp only [Bool.toNat_true]; omega, HO6.out, HB6.out, by omega⟩, by simp [intOf]; omega⟩
        rw [← HL.out]
        simp
      | false =>
        have hLl : L.length ≤ k := hLl
        by_cases hpx : p.1 < x.1
        · have hd : decide ((p.1 : Int) < (x.1 : Int)) = true := by simp; omega
          have HL := Lib.hid hL
          clear hL
          go_wp2_with fail
          go_quiet (fail)
          go_wp2_with (at_builtin; first | (refine app_pr rfl _ _ rfl (w.heap.size + 1) u5 L rfl (wr.drewN nq) p (show (wr.drewN nq).ownsRow _ _ _ _ _ _ from HO.out) hbs (by omega) rfl _ _ rfl rfl ?_; clear HO y0 y1; intro v6 w6 HO6 hb6; have HB6 := Lib.hid ((below_drewN HB.out nq).trans hb6); have hz6 := HB6.out.size; obtain ⟨y0, y1⟩ := hpr _ HB6.out) | (refine app_pr rfl _ _ rfl (w.heap.size + 1) v6 (L ++ [p]) rfl _ x HO6.out (by omega) (by rw [List.length_append, List.length_singleton]; omega) rfl _ _ rfl rfl ?_; clear HO6; intro v7 w7 HO7 hb7; have HB7 := Lib.hid (HB6.out.trans hb7); have hz7 := HB7.out.size))
          go_wp2_with fail
          refine ⟨⟨k + 1, (L ++ [p]) ++ [x], true, by omega, by simp, rfl, ?_, by simp only [List.length_append, List.length_singleton, Bool.toNat_true]; omega, HO7.out, HB7.out, by omega⟩, by simp [intOf]; omega⟩
          rw [← HL.out]
          simp [putL, hpx]
        · have hd : decide ((p.1 : Int) < (x.1 : Int)) = false := by simp; omega
          have HL := Lib.hid hL
          clear hL
          go_wp2_with fail
          go_quiet (fail)
          go_wp2_with (at_builtin; refine app_pr rfl _ _ rfl (w.heap.size + 1) u5 L rfl (wr.drewN nq) x (show (wr.drewN nq).ownsRow _ _ _ _ _ _ from HO.out) hbs (by omega) rfl _ _ rfl rfl ?_; clear HO; intro v6 w6 HO6 hb6; have HB6 := Lib.hid ((below_drewN HB.out nq).trans hb6); have hz6 := HB6.out.size)
          go_wp2_with fail
          refine ⟨⟨k + 1, L ++ [x], false, by omega, by simp, rfl, ?_, by rw [List.length_append, List.length_singleton]; simp only [Bool.toNat_false]; omega, HO6.out, HB6.out, by omega⟩, by simp [intOf]; omega⟩
          rw [← HL.out]
          simp [putL, hpx]
    · obtain rfl : k = l.length := by omega
      rw [List.drop_length] at hL
      cases b with
      | true =>
        obtain ⟨A6, c6, rfl, hc6, hr6⟩ := Reads.of_own HO.out
        have Hr6 := Lib.hid hr6
        clear hr6
        have hLL : L = putL l p := by simpa using hL
        clear hL
        go_wp2_with fail
        show P (.returned (.slice A6 L.length c6)) wr
        rw [← hP, ← hLL]
        exact ⟨A6, c6, rfl, hc6, Hr6.out, hbw _ HB.out⟩
      | false =>
        go_wp2_with (at_builtin; refine app_pr rfl _ _ rfl (w.heap.size + 1) u5 L rfl _ p HO.out hbs (by omega) rfl _ _ rfl rfl ?_; clear HO; intro v6 w6 HO6 hb6; have HB6 := Lib.hid (HB.out.trans hb6); obtain ⟨A6, c6, rfl, hc6, hr6⟩ := Reads.of_own HO6.out; have Hr6 := Lib.hid hr6; clear hr6 HO6)
        go_wp2_with fail
        show P (.returned (.slice A6 (L.length + 1) c6)) w6
        have hLL : L ++ [p] = putL l p := by simpa [putL] using hL
        rw [← hP, ← hLL]
        exact ⟨A6, c6, by rw [List.length_append]; rfl, hc6, Hr6.out, hbw _ HB6.out⟩
end Go.Proofs.YtmfnnggnnnagiaaDoor
