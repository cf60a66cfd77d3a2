/- Contracts of line.Whole, diacriticlaw22.Same; condition: at most 1,000,000 pieces. -/
import Derived.Test.YtlcgfgbdehdndaaDoorYL
set_option maxRecDepth 100000
set_option maxHeartbeats 4000000
namespace Go.Proofs.YtlcgfgbdehdndaaDoor
open Go Go.RowKit

def wholeL (ps : List Pc) : List UInt8 := (ps.map fun q : Pc => q.2.2).flatten
theorem OJoin_none (a : Option Addr) (n c : Nat) (hn : n = 0) (w : World) :
    Calls Tryd.prog 21 #[.slice a n c] w fun e w' => e = .returned (.string ⟨#[]⟩) ∧ w = w' := by
  subst hn
  have hj := Tryd.strings_Join_none a c ⟨#[]⟩
  go_enter Tryd.func21, Tryd.ntmps21
  go_wp2_with (go_at_call 34; refine (hj _).mono ?_; rintro e w1 ⟨rfl, rfl⟩)
  go_ret
  exact ⟨rfl, rfl⟩
theorem str_info : (Tryd.prog.info? 9).map (fun i => (i.zero, i.size, i.bytes)) = some (some (.string ⟨#[]⟩), 1, 16) := by kernel_rfl
def WhRel (ps : List Pc) (g : Nat) (w0 : World) (i : Value) (wr : World) : Prop := ∃ (k : Nat) (xs : List Value), k ≤ ps.length ∧ i = .int .i64 k ∧ wr.ownsRow w0.heap.size 9 1 (.slice (some ⟨g, 0, none⟩) ps.length ps.length) ps.length xs ∧ (∀ j p, j < k → ps[j]? = some p → xs[j]? = some (.string (B p.2.2))) ∧ Below w0.heap.size w0 wr
theorem Whole_any (v : Value) (ps : List Pc) (w : World) (hv : Rows3 pcV w v ps) (hn : ps.length ≤ 1000000) (hl : (wholeL ps).length ≤ 35184372089000) :
    Calls Tryd.prog 9 #[v] w fun e w' => e = .returned (.string (B (wholeL ps))) ∧ Below w.heap.size w w' := by
  obtain ⟨i0, hi, iz0, iz1, iz2⟩ := info_parts str_info
  have hvs : ∃ (A : Option Addr) (c : Nat), v = .slice A ps.length c ∧ ps.length ≤ c ∧ (0 < ps.length → ∃ bk, A = some ⟨bk, 0, none⟩ ∧ bk < w.heap.size ∧ ∀ j u, (ps.flatMap pcV)[j]? = some u → w.cell? ⟨bk, j, none⟩ = some u) := by
    rcases hv with ⟨rfl, rfl⟩ | ⟨bk, c, h0, rfl, h2, h3, h4⟩
    · exact ⟨none, 0, rfl, by simp, fun h => by simp at h⟩
    · exact ⟨_, c, rfl, h2, fun _ => ⟨bk, rfl, h3, h4⟩⟩
  obtain ⟨A, c, rfl, hc, hA⟩ := hvs
  have HA := Lib.hid hA
  clear hA hv
  go_enter Tryd.func9, Tryd.ntmps9
  go_wp2_with (at_make; refine wpList_make_full _ rfl _ _ 37 rfl w.heap.size 9 i0 (.string ⟨#[]⟩) 1 Tryd.underlying37 hi iz0 iz1 .i64 .i64 ps.length ps.length ps.length rfl rfl rfl rfl (by rw [iz2]; omega) (by unfold maxLen; omega) (Nat.le_refl _) ?_; intro w1 hown1 hg1)
  have hB1 : Below w.heap.size w w1 := (Below.refl _ w).grown hg1 (Nat.le_refl _) (fun k h => by cases h)
  go_loopw [11] (fun i wr => WhRel ps w.heap.size w i wr) (fun i _ => ps.length - (intOf i).toNat)
  case atStart => exact ⟨0, _, by omega, rfl, hown1, fun j p h => by omega, hB1⟩
  case round =>
    obtain ⟨k, xs, hk, rfl, hown, hx, hb⟩ := hrel
    have hz := hb.size
    by_cases hlt : k < ps.length
    · obtain ⟨bk, rfl, hbk, hcl⟩ := HA.out (by omega)
      obtain ⟨p, hp⟩ : ∃ p, ps[k]? = some p := ⟨_, List.getElem?_eq_getElem hlt⟩
      have hcr : ∀ j u, (ps.flatMap pcV)[j]? = some u → wr.cell? ⟨bk, j, none⟩ = some u := fun j u hu => (hb.cell (p := ⟨bk, j, none⟩) hbk).trans (hcl j u hu)
      obtain ⟨c0, c1, c2⟩ := Rows3.at_ pcV_len hcr hp rfl
      have hxl : xs.length = ps.length := by simpa using hown.1
      have hgl : w.heap.size < wr.heap.size := by
        rcases hown.2 with ⟨h, _⟩ | ⟨g, cap, cur, h, _, hg, _⟩
        · simp at h
        · simp only [Value.slice.injEq, Option.some.injEq, Addr.mk.injEq, and_true, true_and] at h
          obtain ⟨rfl, _⟩ := h
          exact (Array.getElem?_eq_some_iff.1 hg).1
      have ho2 := hown.alloc (.cells #[.bool p.1, .string (B p.2.1), .string (B p.2.2)] 54)
      have hfz0 := hown.frozenAt k
      have hce0 : wr.cell? ⟨w.heap.size, k, none⟩ = some (xs[k]'(by omega)) := by
        rw [hown.cellAt k (by omega), List.getElem?_eq_getElem (by omega)]
      have hce : (wr.alloc (.cells #[.bool p.1, .string (B p.2.1), .string (B p.2.2)] 54)).cell? ⟨w.heap.size, k, none⟩ = some (xs[k]'(by omega)) := by
        rw [ho2.cellAt k (by omega), List.getElem?_eq_getElem (by omega)]
      have hfz := ho2.frozenAt k
      have hst := ((hown.stored k (.string (B p.2.2))).1).alloc (.cells #[.bool p.1, .string (B p.2.1), .string (B p.2.2)] 54)
      have Hst := Lib.hid hst
      have Hx := Lib.hid hx
      clear hcl hcr hx hst ho2
      go_wp2_with fail
      go_roundw
      case rel =>
        refine ⟨k + 1, xs.set k (.string (B p.2.2)), by omega, by go_num, Hst.out, ?_, (hb.setCell (p := ⟨w.heap.size, k, none⟩) (Nat.le_refl _) _).alloc (by simp; omega) _⟩
        intro j q hj hq
        by_cases e : j = k
        · subst e
          rw [hp] at hq
          cases hq
          rw [List.getElem?_set_self (by omega)]
        · rw [List.getElem?_set_ne (by omega)]
          exact Hx.out j q (by omega) hq
      case measure => simp [intOf]; omega
    · have hk2 : k = ps.length := by omega
      subst hk2
      by_cases h0 : ps.length = 0
      · have hps : ps = [] := List.eq_nil_of_length_eq_zero h0
        have Hr := Lib.hid (show B (wholeL ps) = ⟨#[]⟩ by rw [hps]; rfl)
        have hj2 := fun w' => OJoin_none (some ⟨w.heap.size, 0, none⟩) ps.length ps.length h0 w'
        clear hlt hps h0
        go_wp2_with (go_at_call 21; refine (hj2 _).mono ?_; rintro e w2 ⟨rfl, rfl⟩)
        go_ret
        rw [Hr.out]
        exact ⟨rfl, hb⟩
      · have hj := OJoin_any w.heap.size ps.length (ps.map fun q : Pc => q.2.2) wr (fun j x hx2 => by
          rw [List.getElem?_map] at hx2
          obtain ⟨p, hp, rfl⟩ := Option.map_eq_some_iff.1 hx2
          have hj : j < ps.length := by
            by_cases h : j < ps.length
            · exact h
            · rw [List.getElem?_eq_none (by omega)] at hp; cases hp
          rw [hown.cellAt j (by omega)]
          exact hx j p hj hp) (by intro e; simp at e; exact h0 (by rw [e]; rfl)) (by simp) hl (by simp; omega)
        rw [List.length_map] at hj
        have Hown := Lib.hid hown
        clear hlt h0 hx hown
        go_wp2_with (go_at_call 21; refine hj.mono ?_; rintro e w2 ⟨rfl, hb2⟩)
        go_ret
        exact ⟨rfl, hb.trans (hb2.mono hz)⟩
theorem rows_vs {v : Value} {ps : List Pc} {w : World} (hv : Rows3 pcV w v ps) : ∃ (A : Option Addr) (c : Nat), v = .slice A ps.length c ∧ ps.length ≤ c ∧ (0 < ps.length → ∃ bk, A = some ⟨bk, 0, none⟩ ∧ bk < w.heap.size ∧ ∀ j u, (ps.flatMap pcV)[j]? = some u → w.cell? ⟨bk, j, none⟩ = some u) := by
  rcases hv with ⟨rfl, rfl⟩ | ⟨bk, c, h0, rfl, h2, h3, h4⟩
  · exact ⟨none, 0, rfl, by simp, fun h => by simp at h⟩
  · exact ⟨_, c, rfl, h2, fun _ => ⟨bk, rfl, h3, h4⟩⟩
theorem Same_any (v v' : Value) (ps : List Pc) (w : World) (hv : Rows3 pcV w v ps) (hv' : Rows3 pcV w v' ps) (hn : ps.length ≤ 1000000) :
    Calls Tryd.prog 8 #[v, v'] w fun e w' => e = .returned (.bool true) ∧ Below w.heap.size w w' := by
  obtain ⟨A, c, rfl, hc, hA⟩ := rows_vs hv
  obtain ⟨A', c', rfl, hc', hA'⟩ := rows_vs hv'
  have HA := Lib.hid hA
  have HA' := Lib.hid hA'
  clear hA hv hA' hv'
  go_enter Tryd.func8, Tryd.ntmps8
  go_wp2_with fail
  go_loopw [14] (fun i wr => (∃ k : Nat, k ≤ ps.length ∧ i = .int .i64 k) ∧ Below w.heap.size w wr) (fun i _ => ps.length - (intOf i).toNat)
  case atStart => exact ⟨⟨0, by omega, rfl⟩, Below.refl _ _⟩
  case round =>
    obtain ⟨⟨k, hk, rfl⟩, hb⟩ := hrel
    have hz := hb.size
    by_cases hlt : k < ps.length
    · obtain ⟨bk, rfl, hbk, hcl⟩ := HA.out (by omega)
      obtain ⟨bk', rfl, hbk', hcl'⟩ := HA'.out (by omega)
      obtain ⟨p, hp⟩ : ∃ p, ps[k]? = some p := ⟨_, List.getElem?_eq_getElem hlt⟩
      have hcr : ∀ j u, (ps.flatMap pcV)[j]? = some u → wr.cell? ⟨bk, j, none⟩ = some u := fun j u hu => (hb.cell (p := ⟨bk, j, none⟩) hbk).trans (hcl j u hu)
      have hcr' : ∀ j u, (ps.flatMap pcV)[j]? = some u → wr.cell? ⟨bk', j, none⟩ = some u := fun j u hu => (hb.cell (p := ⟨bk', j, none⟩) hbk').trans (hcl' j u hu)
      obtain ⟨c0, c1, c2⟩ := Rows3.at_ pcV_len hcr hp rfl
      obtain ⟨d0, d1, d2⟩ := Rows3.at_ pcV_len hcr' hp rfl
      have e0 := keepA d0 (.cells #[.bool p.1, .string (B p.2.1), .string (B p.2.2)] 54)
      have e1 := keepA d1 (.cells #[.bool p.1, .string (B p.2.1), .string (B p.2.2)] 54)
      have e2 := keepA d2 (.cells #[.bool p.1, .string (B p.2.1), .string (B p.2.2)] 54)
      clear hcl hcr hcl' hcr' hp
      generalize p.1 = p0 at *
      generalize B p.2.1 = p1 at *
      generalize B p.2.2 = p2 at *
      go_wp2_with fail
      go_quiet (fail)
      go_wp2_with fail
      go_roundw
      case rel => exact ⟨⟨k + 1, by omega, by go_num⟩, below_drewN (hb.alloc hz _) _⟩
      case measure => simp [intOf]; omega
    · have hk2 : k = ps.length := by omega
      subst hk2
      clear hlt
      go_wp2_with fail
      go_ret
      exact ⟨rfl, hb⟩
end Go.Proofs.YtlcgfgbdehdndaaDoor
