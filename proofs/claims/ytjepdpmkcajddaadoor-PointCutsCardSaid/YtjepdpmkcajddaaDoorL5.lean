/- The laws of layer 2, walked: PointCuts. -/
import Derived.Test.YtjepdpmkcajddaaDoorL2
import Derived.IntWalk
import Derived.RegionCalls
import Derived.Test.YtjepdpmkcajddaaDoorLin
namespace Go.Proofs.YtjepdpmkcajddaaDoor
open Go Go.RowKit
set_option maxRecDepth 100000

theorem app_data (s t : ByteArray) : (s ++ t).data.toList = s.data.toList ++ t.data.toList := by simp
theorem good_app {ps qs : List Int} {s : ByteArray} (hp : ∀ p ∈ ps, scalarB p = true) (hg : Good s qs) : Good (⟨(textL ps).toArray⟩ ++ s) (ps ++ qs) := by
  refine ⟨by rw [app_data, textL_append, hg.1], fun p h => ?_⟩
  rcases List.mem_append.1 h with h | h
  · exact hp p h
  · exact hg.2 p h
theorem bad_app {ps : List Int} {s : ByteArray} {n : Nat} (hp : ∀ p ∈ ps, scalarB p = true) (hg : BadAt s n) : BadAt (⟨(textL ps).toArray⟩ ++ s) ((textL ps).length + n) := by
  obtain ⟨qs, r, h1, h2, h3, h4, h5⟩ := hg
  refine ⟨ps ++ qs, r, by rw [app_data, textL_append, h1, List.append_assoc], fun p h => ?_, by rw [textL_append, List.length_append, h3], h4, h5⟩
  rcases List.mem_append.1 h with h | h
  · exact hp p h
  · exact h2 p h
theorem app_size (a : List UInt8) (s : ByteArray) : (⟨a.toArray⟩ ++ s : ByteArray).size = a.length + s.size := by
  rw [ByteArray.size_append]; rfl


theorem two_boxes (w : World) (o1 o2 : Obj) {a b c d : Value} {T : TypeId} (h1 : o1 = .cells #[a, b] T) (h2 : o2 = .cells #[c, d] T) :
    ((w.alloc o1).alloc o2).cell? ⟨w.heap.size, 0, none⟩ = some a ∧ ((w.alloc o1).alloc o2).cell? ⟨w.heap.size, 1, none⟩ = some b ∧ ((w.alloc o1).alloc o2).cell? ⟨w.heap.size + 1, 0, none⟩ = some c ∧ ((w.alloc o1).alloc o2).cell? ⟨w.heap.size + 1, 1, none⟩ = some d ∧ Below w.heap.size w ((w.alloc o1).alloc o2) := by
  subst h1; subst h2
  have hb := (Below.refl (w.heap.size + 1) (w.alloc (.cells #[a, b] T))).alloc (by simp) (.cells #[c, d] T)
  obtain ⟨h1, h2, _⟩ := box2 hb
  have e := heap_alloc_new (w.alloc (.cells #[a, b] T)) (.cells #[c, d] T)
  rw [World.size_alloc] at e
  refine ⟨h1, h2, ?_, ?_, ((Below.refl _ _).alloc (Nat.le_refl _) _).alloc (by simp) _⟩
  · rw [cell_of_row _ (w.heap.size + 1) 0 _ T (0, 0) e]; rfl
  · rw [cell_of_row _ (w.heap.size + 1) 1 _ T (0, 0) e]; rfl
theorem keep4 {W w' w'' : World} {a0 a1 a2 a3 : Addr} {v0 v1 v2 v3 : Value} (h : (w'.cell? a0 = some v0 ∧ w'.cell? a1 = some v1) ∧ (w'.cell? a2 = some v2 ∧ w'.cell? a3 = some v3) ∧ Below W.heap.size W w') (hb : Below w'.heap.size w' w'') :
    (w''.cell? a0 = some v0 ∧ w''.cell? a1 = some v1) ∧ (w''.cell? a2 = some v2 ∧ w''.cell? a3 = some v3) ∧ Below W.heap.size W w'' :=
  ⟨⟨cell_keep h.1.1 hb, cell_keep h.1.2 hb⟩, ⟨cell_keep h.2.1.1 hb, cell_keep h.2.1.2 hb⟩, h.2.2.trans (hb.mono h.2.2.size)⟩
theorem tabs4 {W w' : World} {p q : Prop} (hT : Tabs W) (h : p ∧ q ∧ Below W.heap.size W w') : Tabs w' := Tabs_below hT h.2.2 (Nat.le_refl _)
theorem fin4 {w W w' : World} {p q : Prop} (hB : Below w.heap.size w W) (h : p ∧ q ∧ Below W.heap.size W w') : Below w.heap.size w w' := hB.trans (h.2.2.mono hB.size)

set_option maxHeartbeats 1000000 in
theorem cuts_bad (A : Option Addr) (c : Nat) (ps : List Int) (s : ByteArray) (n : Nat) (hg : BadAt s n) (w : World) (hn : Nums w w.heap.size .i32 A ps) (hps : ∀ p ∈ ps, scalarB p = true) (hl : ps.length ≤ 200) (hs : s.size ≤ 500) (hT : Tabs w) :
    Calls Tryd.prog 4 #[.slice A ps.length c, .string s] w fun e w' => e = .returned (.bool true) ∧ Below w.heap.size w w' := by
  have h4 := (len_textL ps).2
  have hg2 := bad_app hps hg
  have hsz := app_size (textL ps) s
  have hz2 : (⟨(textL ps).toArray⟩ ++ s : ByteArray).size ≤ 2000 := by omega
  have hlt := hg.lt
  clear hsz
  go_enter Tryd.func4, Tryd.ntmps4
  go_wp2_with fail
  refine (Text_good _ _ ps _ hn (Nat.le_refl _) hps (by omega)).mono ?_
  rintro e w1 ⟨rfl, hb1⟩
  have hz1 := hb1.size
  have hT1 := Tabs_below hT hb1 (Nat.le_refl _)
  go_wp2_with fail
  refine (Check_bad s n hg (by omega) _ hT1).mono ?_
  rintro e w2 ⟨rfl, hb2⟩
  have hB2 := hb1.trans (hb2.mono hz1)
  have hz22 := hB2.size
  have hT2 := Tabs_below hT hB2 (Nat.le_refl _)
  go_wp2_with fail
  refine (Check_bad _ _ hg2 (by omega) _ hT2).mono ?_
  rintro e w3 ⟨rfl, hb3⟩
  have hB3 := hB2.trans (hb3.mono hz22)
  have hz3 := hB3.size
  have hT3 := Tabs_below hT hB3 (Nat.le_refl _)
  clear hb1 hb2 hb3 hz1 hT1 hT2 hB2 hz22
  obtain ⟨hc0, hc1, hd0, hd1, hB4⟩ := two_boxes w3 (.cells #[.int .i64 2, .int .i64 n] 30) (.cells #[.int .i64 2, .int .i64 (((textL ps).length : Int) + n)] 30) rfl rfl
  have hB5 := hB3.trans (hB4.mono hz3)
  have hT5 := Tabs_below hT hB5 (Nat.le_refl _)
  clear hB3 hT3 hB4
  go_wp2_with fail
  generalize hW : (w3.alloc (.cells #[.int .i64 2, .int .i64 n] 30)).alloc (.cells #[.int .i64 2, .int .i64 (((textL ps).length : Int) + n)] 30) = W at *
  clear hW
  go_region_held3 (fun w' => (w'.cell? ⟨w3.heap.size, 0, none⟩ = some (.int .i64 2) ∧ w'.cell? ⟨w3.heap.size, 1, none⟩ = some (.int .i64 n)) ∧ (w'.cell? ⟨w3.heap.size + 1, 0, none⟩ = some (.int .i64 2) ∧ w'.cell? ⟨w3.heap.size + 1, 1, none⟩ = some (.int .i64 (((textL ps).length : Int) + n))) ∧ Below W.heap.size W w') (first | exact ⟨⟨hc0, hc1⟩, ⟨hd0, hd1⟩, (Below.refl _ _).drew⟩ | exact keep4 (by assumption) (by assumption)) (first | (go_at_call 11; refine (awake_t _ (tabs4 hT5 (by assumption))).mono ?_; rintro e w4 ⟨rfl, hb4⟩) | (go_at_call 14; refine (Bad_any _ _ _).mono ?_; rintro e w4 ⟨rfl, hb4⟩))
  go_wp2
  go_ret
  refine ⟨ret_bool ?_, fin4 hB5 (by assumption)⟩
  rw [IntWalk.i64_in _ (by omega)]
  simp

set_option maxHeartbeats 1000000 in
theorem cuts_good (A : Option Addr) (c : Nat) (ps : List Int) (s : ByteArray) (qs : List Int) (hg : Good s qs) (w : World) (hn : Nums w w.heap.size .i32 A ps) (hps : ∀ p ∈ ps, scalarB p = true) (hl : ps.length ≤ 200) (hs : s.size ≤ 500) (hT : Tabs w) :
    Calls Tryd.prog 4 #[.slice A ps.length c, .string s] w fun e w' => e = .returned (.bool true) ∧ Below w.heap.size w w' := by
  have h4 := (len_textL ps).2
  have hg2 := good_app hps hg
  have hsz := app_size (textL ps) s
  have hz2 : (⟨(textL ps).toArray⟩ ++ s : ByteArray).size ≤ 2000 := by omega
  clear hsz
  go_enter Tryd.func4, Tryd.ntmps4
  go_wp2_with fail
  refine (Text_good _ _ ps _ hn (Nat.le_refl _) hps (by omega)).mono ?_
  rintro e w1 ⟨rfl, hb1⟩
  have hz1 := hb1.size
  have hT1 := Tabs_below hT hb1 (Nat.le_refl _)
  go_wp2_with fail
  refine (Check_good s qs hg (by omega) _ hT1).mono ?_
  rintro e w2 ⟨rfl, hb2⟩
  have hB2 := hb1.trans (hb2.mono hz1)
  have hz22 := hB2.size
  have hT2 := Tabs_below hT hB2 (Nat.le_refl _)
  go_wp2_with fail
  refine (Check_good _ _ hg2 (by omega) _ hT2).mono ?_
  rintro e w3 ⟨rfl, hb3⟩
  have hB3 := hB2.trans (hb3.mono hz22)
  have hz3 := hB3.size
  have hT3 := Tabs_below hT hB3 (Nat.le_refl _)
  clear hb1 hb2 hb3 hz1 hT1 hT2 hB2 hz22
  obtain ⟨hc0, hc1, hd0, hd1, hB4⟩ := two_boxes w3 (.cells #[.int .i64 0, .int .i64 0] 30) (.cells #[.int .i64 0, .int .i64 0] 30) rfl rfl
  have hB5 := hB3.trans (hB4.mono hz3)
  have hT5 := Tabs_below hT hB5 (Nat.le_refl _)
  clear hB3 hT3 hB4
  go_wp2_with fail
  generalize hW : (w3.alloc (.cells #[.int .i64 0, .int .i64 0] 30)).alloc (.cells #[.int .i64 0, .int .i64 0] 30) = W at *
  clear hW
  have hS0 : (W.drew.cell? ⟨w3.heap.size, 0, none⟩ = some (.int .i64 0) ∧ W.drew.cell? ⟨w3.heap.size, 1, none⟩ = some (.int .i64 0)) ∧ (W.drew.cell? ⟨w3.heap.size + 1, 0, none⟩ = some (.int .i64 0) ∧ W.drew.cell? ⟨w3.heap.size + 1, 1, none⟩ = some (.int .i64 0)) ∧ Below W.heap.size W W.drew := ⟨⟨hc0, hc1⟩, ⟨hd0, hd1⟩, (Below.refl _ _).drew⟩
  refine wp_region_lin (fun w' => (w'.cell? ⟨w3.heap.size, 0, none⟩ = some (.int .i64 0) ∧ w'.cell? ⟨w3.heap.size, 1, none⟩ = some (.int .i64 0)) ∧ (w'.cell? ⟨w3.heap.size + 1, 0, none⟩ = some (.int .i64 0) ∧ w'.cell? ⟨w3.heap.size + 1, 1, none⟩ = some (.int .i64 0)) ∧ Below W.heap.size W w') [(0, false), (1, true), (2, true), (4, true), (3, false), (5, false), (6, true), (7, true), (8, true), (9, true), (10, false), (11, true), (12, true), (13, true), (14, true), (15, true), (16, true), (17, true), (18, true), (19, true), (20, true), (21, true), (22, true), (23, true)] (by kernel_rfl) (by kernel_rfl) (by kernel_rfl) (Nat.le_of_ble_eq_true rfl) (fun _ _ d _ _ h => by cases d <;> exact h) hS0 ?_
  repeat (first
    | (refine lin_skip rfl (by rfl) ?_; try simp only [Act.put, List.setIfInBounds_toArray, List.set_cons_zero, List.set_cons_succ])
    | (refine' lin_pure rfl (by rfl) _ (fun w hSw => _) _; rotate_left; (go_simp; try with_reducible rfl); try simp only [Act.put, List.setIfInBounds_toArray, List.set_cons_zero, List.set_cons_succ])
    | (refine lin_eff rfl (by rfl) (fun K hK => ?_); go_simp; (first | (go_at_call 11; refine (awake_t _ (tabs4 hT5 (by assumption))).mono ?_; rintro e w4 ⟨rfl, hb4⟩) | (go_at_call 14; refine (Bad_any _ _ _).mono ?_; rintro e w4 ⟨rfl, hb4⟩)); go_wp2_with fail; have hS := keep4 (by assumption) hb4; refine hK.out _ _ hS ?_; clear hK K; try simp only [Act.put, List.setIfInBounds_toArray, List.set_cons_zero, List.set_cons_succ]))
  refine lin_nil ?_
  go_wp2
  go_ret
  exact ⟨rfl, fin4 hB5 (by assumption)⟩

theorem cuts_no (A : Option Addr) (c : Nat) (ps : List Int) (s : ByteArray) (w : World) (hn : Nums w w.heap.size .i32 A ps) (hps : ¬ ∀ p ∈ ps, scalarB p = true) (hl : ps.length ≤ 200) (hs : s.size ≤ 500) (hT : Tabs w) :
    Calls Tryd.prog 4 #[.slice A ps.length c, .string s] w fun e w' => e = .returned (.bool true) ∧ Below w.heap.size w w' := by
  go_enter Tryd.func4, Tryd.ntmps4
  go_wp2_with fail
  refine (Text_bad _ _ ps _ hn hps (by omega)).mono ?_
  rintro e w1 ⟨rfl, rfl⟩
  clear hps
  go_wp2_with (go_at_call 11; refine (awake_t _ hT).mono ?_; rintro e w9 ⟨rfl, hb9⟩)
  go_ret
  exact ⟨rfl, hb9⟩
theorem cuts_long (A : Option Addr) (c n : Nat) (s : ByteArray) (w : World) (hl : 200 < n ∨ (n ≤ 200 ∧ 500 < s.size)) (hT : Tabs w) :
    Calls Tryd.prog 4 #[.slice A n c, .string s] w fun e w' => e = .returned (.bool true) ∧ Below w.heap.size w w' := by
  rcases hl with hl | ⟨hl, hs⟩
  all_goals
    go_enter Tryd.func4, Tryd.ntmps4
    go_wp2_with (go_at_call 11; refine (awake_t _ hT).mono ?_; rintro e w9 ⟨rfl, hb9⟩)
    go_ret
    exact ⟨rfl, hb9⟩
theorem cuts_law (A : Option Addr) (c : Nat) (ps : List Int) (s : ByteArray) (w : World) (hn : Nums w w.heap.size .i32 A ps) (hT : Tabs w) :
    Calls Tryd.prog 4 #[.slice A ps.length c, .string s] w fun e w' => e = .returned (.bool true) ∧ Below w.heap.size w w' := by
  by_cases hl : ps.length ≤ 200 ∧ s.size ≤ 500
  · obtain ⟨hl, hs⟩ := hl
    by_cases hps : ∀ p ∈ ps, scalarB p = true
    · rcases good_or_bad s with ⟨qs, hg⟩ | ⟨n, hg⟩
      · exact cuts_good A c ps s qs hg w hn hps hl hs hT
      · exact cuts_bad A c ps s n hg w hn hps hl hs hT
    · exact cuts_no A c ps s w hn hps hl hs hT
  · exact cuts_long A c ps.length s w (by omega) hT
end Go.Proofs.YtjepdpmkcajddaaDoor
