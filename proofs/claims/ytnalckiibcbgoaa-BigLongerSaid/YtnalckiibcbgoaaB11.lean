/- The law BigLonger returns true for every argument; condition: the cell of the library's MaxLen holds some int. -/
import Derived.Test.YtnalckiibcbgoaaB10
import Derived.Laws.AppendOwnNone
set_option maxRecDepth 100000
set_option maxHeartbeats 2000000
namespace Go.Proofs.Ytnalckiibcbgoaa
open Go Go.RowKit

theorem bytesL_cons (x : Int) (r : List Int) : bytesL (x :: r) = if 0 ≤ twoB TW (x :: r) then (codeB (136 * 256 + twoB TW (x :: r)), 2) else if 0 ≤ findP x then (codeB (findP x), 1) else ([], 0) := if_neg (List.cons_ne_nil _ _)
theorem bytesL_more (x y : Int) (r s : List Int) : bytesL (x :: y :: r) = bytesL (x :: y :: s) := by
  have e : twoB TW (x :: y :: r) = twoB TW (x :: y :: s) := by simp [TW, twoB]
  rw [bytesL_cons, bytesL_cons, e]
theorem bytesL_one (x y : Int) (r : List Int) (h : (bytesL (x :: y :: r)).2 ≠ 2) : bytesL (x :: y :: r) = bytesL [x] := by
  have e : twoB TW [x] = -1 := by simp [TW, twoB]
  rw [bytesL_cons] at h ⊢
  rw [bytesL_cons, e]
  by_cases ht : 0 ≤ twoB TW (x :: y :: r)
  · rw [if_pos ht] at h; exact absurd rfl h
  · rw [if_neg ht]; rfl
theorem longer_n1 (ad : Addr) (c1 : Nat) (x : Int) (l lm : List Int) (bs : List UInt8) (bn : Int) (w : World) (hl : Nums w w.heap.size .i32 (some ad) l) (hm : Max w) (hblk : ad.block < w.heap.size) (hcl : ∀ (j : Nat) (u : Value), (l.map (Value.int .i32))[j]? = some u → w.cell? (ad.add j) = some u) (hx0 : w.cell? ad = some (.int .i32 x)) (h1l : ∀ u ∈ l.map (Value.int .i32), u.oneCell' = true) (h2' : ¬ (l.length : Int) < 2) (h50' : ¬ (50 : Int) < l.length) (_hlen0 : (0 : Int) < l.length) (hbl : ∀ (A : Option Addr) (c : Nat) (w : World), Nums w w.heap.size .i32 A l → Max w → Calls Try.prog 11 #[.slice A l.length c] w fun e w' => e = .returned (.tuple #[.string ⟨bs.toArray⟩, .int .i64 bn]) ∧ Below w.heap.size w w') (hbm : ∀ (A : Option Addr) (c : Nat) (w : World), Nums w w.heap.size .i32 A lm → Max w → Calls Try.prog 11 #[.slice A lm.length c] w fun e w' => e = .returned (.tuple #[.string ⟨bs.toArray⟩, .int .i64 bn]) ∧ Below w.heap.size w w') (hbo : ∀ (A : Option Addr) (c : Nat) (w : World), Nums w w.heap.size .i32 A [x] → Max w → Calls Try.prog 11 #[.slice A 1 c] w fun e w' => e = .returned (.tuple #[.string ⟨bs.toArray⟩, .int .i64 bn]) ∧ Below w.heap.size w w') (Hm : Hid (lm.map (Value.int .i32) = l.map (Value.int .i32))) :
    Calls Try.prog 5 #[.slice (some ad) l.length c1, .slice none 0 0] w fun e w' => e = .returned (.bool true) ∧ Below w.heap.size w w' := by
  obtain ⟨i0, hi, iz0, iz1, iz2⟩ := info_parts rune_info
  go_enter Try.func5, Try.ntmps5
  go_wp2_with (first
    | (at_builtin; refine wpList_append_own _ rfl _ _ 26 rfl w.heap.size 21 i0 (.int .i32 0) 1 4 Try.underlying26 hi iz0 iz1 iz2 rfl (by decide) (.slice none 0 0) 0 _ rfl (World.ownsRow_nil _ _ _ _) ad l.length c1 (l.map (Value.int .i32)) rfl (by simp) hcl1 h1l (by unfold maxLen; omega) (by omega) hz1 ?_; clear hcl1; intro v5 w5 hown5 hg5 _; have hB5 := below_grownOwn hbw1 (World.ownsRow_nil w1 w.heap.size 21 1) hg5 hz1 (Nat.le_refl _); have hz5 := hB5.size)
    | (at_builtin; refine wpList_append_own_none rfl _ _ 26 rfl w.heap.size 21 i0 1 Try.underlying26 hi v5 _ _ rfl hown5 rfl ?_; have hown7 : w5.ownsRow w.heap.size 21 1 v5 _ (lm.map (Value.int .i32)) := (by rw [Hm.out]; exact hown5); clear hown5 hg5; obtain ⟨A6, c6, rfl, _, _, hn6⟩ := Nums.of_own hown7; clear hown7; have hB6 := hB5)
    | (go_at_call 11; first | (refine (hbl _ _ _ hl hm).mono ?_; clear hbl; rintro e w1 ⟨rfl, hbw1⟩; have hz1 := hbw1.size; have hcl1 : ∀ j u, (l.map (Value.int .i32))[j]? = some u → w1.cell? (ad.add j) = some u := (fun j u hu => by rw [hbw1.cell (by rw [block_of_add]; exact hblk)]; exact hcl j u hu)) | (refine (hbm _ _ _ hn6 (hm.below hB6)).mono ?_; clear hbm; rintro e w7 ⟨rfl, hb7⟩; have hB7 := hB6.trans (hb7.mono hB6.size); have hx7 := (hB7.cell hblk).trans hx0; have hB8 := hB7.alloc hB7.size (.cells #[.int .i32 x] 21)) | (refine (hbo _ _ _ (by have := nums_new w7 21 [x] .i32; simpa using this) (hm.below hB8)).mono ?_; clear hbo; rintro e w9 ⟨rfl, hb9⟩; have hB9 := hB8.trans (hb9.mono hB8.size)))
    | (go_at_call 9; refine (bawake _ (hm.below hB9)).mono ?_; rintro e w10 ⟨rfl, hb10⟩))
  all_goals go_ret
  all_goals refine ⟨ret_bool ?_, hB9.trans (hb10.mono hB9.size)⟩
  all_goals first | rfl | simp
theorem longer_n2 (ad : Addr) (c1 : Nat) (ds : List UInt8) (dn : Int) (x : Int) (l lm : List Int) (bs : List UInt8) (w : World) (hl : Nums w w.heap.size .i32 (some ad) l) (hm : Max w) (hblk : ad.block < w.heap.size) (hcl : ∀ (j : Nat) (u : Value), (l.map (Value.int .i32))[j]? = some u → w.cell? (ad.add j) = some u) (hx0 : w.cell? ad = some (.int .i32 x)) (h1l : ∀ u ∈ l.map (Value.int .i32), u.oneCell' = true) (h2' : ¬ (l.length : Int) < 2) (h50' : ¬ (50 : Int) < l.length) (_hlen0 : (0 : Int) < l.length) (hbl : ∀ (A : Option Addr) (c : Nat) (w : World), Nums w w.heap.size .i32 A l → Max w → Calls Try.prog 11 #[.slice A l.length c] w fun e w' => e = .returned (.tuple #[.string ⟨bs.toArray⟩, .int .i64 2]) ∧ Below w.heap.size w w') (hbm : ∀ (A : Option Addr) (c : Nat) (w : World), Nums w w.heap.size .i32 A lm → Max w → Calls Try.prog 11 #[.slice A lm.length c] w fun e w' => e = .returned (.tuple #[.string ⟨bs.toArray⟩, .int .i64 2]) ∧ Below w.heap.size w w') (hbo : ∀ (A : Option Addr) (c : Nat) (w : World), Nums w w.heap.size .i32 A [x] → Max w → Calls Try.prog 11 #[.slice A 1 c] w fun e w' => e = .returned (.tuple #[.string ⟨ds.toArray⟩, .int .i64 dn]) ∧ Below w.heap.size w w') (Hm : Hid (lm.map (Value.int .i32) = l.map (Value.int .i32))) :
    Calls Try.prog 5 #[.slice (some ad) l.length c1, .slice none 0 0] w fun e w' => e = .returned (.bool true) ∧ Below w.heap.size w w' := by
  obtain ⟨i0, hi, iz0, iz1, iz2⟩ := info_parts rune_info
  go_enter Try.func5, Try.ntmps5
  go_wp2_with (first
    | (at_builtin; refine wpList_append_own _ rfl _ _ 26 rfl w.heap.size 21 i0 (.int .i32 0) 1 4 Try.underlying26 hi iz0 iz1 iz2 rfl (by decide) (.slice none 0 0) 0 _ rfl (World.ownsRow_nil _ _ _ _) ad l.length c1 (l.map (Value.int .i32)) rfl (by simp) hcl1 h1l (by unfold maxLen; omega) (by omega) hz1 ?_; clear hcl1; intro v5 w5 hown5 hg5 _; have hB5 := below_grownOwn hbw1 (World.ownsRow_nil w1 w.heap.size 21 1) hg5 hz1 (Nat.le_refl _); have hz5 := hB5.size)
    | (at_builtin; refine wpList_append_own_none rfl _ _ 26 rfl w.heap.size 21 i0 1 Try.underlying26 hi v5 _ _ rfl hown5 rfl ?_; have hown7 : w5.ownsRow w.heap.size 21 1 v5 _ (lm.map (Value.int .i32)) := (by rw [Hm.out]; exact hown5); clear hown5 hg5; obtain ⟨A6, c6, rfl, _, _, hn6⟩ := Nums.of_own hown7; clear hown7; have hB6 := hB5)
    | (go_at_call 11; first | (refine (hbl _ _ _ hl hm).mono ?_; clear hbl; rintro e w1 ⟨rfl, hbw1⟩; have hz1 := hbw1.size; have hcl1 : ∀ j u, (l.map (Value.int .i32))[j]? = some u → w1.cell? (ad.add j) = some u := (fun j u hu => by rw [hbw1.cell (by rw [block_of_add]; exact hblk)]; exact hcl j u hu)) | (refine (hbm _ _ _ hn6 (hm.below hB6)).mono ?_; clear hbm; rintro e w7 ⟨rfl, hb7⟩; have hB7 := hB6.trans (hb7.mono hB6.size); have hx7 := (hB7.cell hblk).trans hx0; have hB8 := hB7.alloc hB7.size (.cells #[.int .i32 x] 21)) | (refine (hbo _ _ _ (by have := nums_new w7 21 [x] .i32; simpa using this) (hm.below hB8)).mono ?_; clear hbo; rintro e w9 ⟨rfl, hb9⟩; have hB9 := hB8.trans (hb9.mono hB8.size)))
    | (go_at_call 9; refine (bawake _ (hm.below hB9)).mono ?_; rintro e w10 ⟨rfl, hb10⟩))
  all_goals go_ret
  all_goals refine ⟨ret_bool ?_, hB9.trans (hb10.mono hB9.size)⟩
  all_goals first | rfl | simp
theorem longer_s1 (ad ad2 : Addr) (c1 c2 : Nat) (more : List Int) (x : Int) (l lm : List Int) (bs : List UInt8) (bn : Int) (w : World) (hl : Nums w w.heap.size .i32 (some ad) l) (hm : Max w) (hblk : ad.block < w.heap.size) (hcl : ∀ (j : Nat) (u : Value), (l.map (Value.int .i32))[j]? = some u → w.cell? (ad.add j) = some u) (hx0 : w.cell? ad = some (.int .i32 x)) (h1l : ∀ u ∈ l.map (Value.int .i32), u.oneCell' = true) (h2' : ¬ (l.length : Int) < 2) (h50' : ¬ (50 : Int) < l.length) (_hlen0 : (0 : Int) < l.length) (hbl : ∀ (A : Option Addr) (c : Nat) (w : World), Nums w w.heap.size .i32 A l → Max w → Calls Try.prog 11 #[.slice A l.length c] w fun e w' => e = .returned (.tuple #[.string ⟨bs.toArray⟩, .int .i64 bn]) ∧ Below w.heap.size w w') (hbm : ∀ (A : Option Addr) (c : Nat) (w : World), Nums w w.heap.size .i32 A lm → Max w → Calls Try.prog 11 #[.slice A lm.length c] w fun e w' => e = .returned (.tuple #[.string ⟨bs.toArray⟩, .int .i64 bn]) ∧ Below w.heap.size w w') (hbo : ∀ (A : Option Addr) (c : Nat) (w : World), Nums w w.heap.size .i32 A [x] → Max w → Calls Try.prog 11 #[.slice A 1 c] w fun e w' => e = .returned (.tuple #[.string ⟨bs.toArray⟩, .int .i64 bn]) ∧ Below w.heap.size w w') (Hm : Hid (lm.map (Value.int .i32) = l.map (Value.int .i32) ++ more.map (Value.int .i32))) (h51' : ¬ (50 : Int) < more.length) (hblk2 : ∀ (j : Nat) (u : Value), (more.map (Value.int .i32))[j]? = some u → ad2.block < w.heap.size) (hcm : ∀ (j : Nat) (u : Value), (more.map (Value.int .i32))[j]? = some u → w.cell? (ad2.add j) = some u) (h1m : ∀ u ∈ more.map (Value.int .i32), u.oneCell' = true) :
    Calls Try.prog 5 #[.slice (some ad) l.length c1, .slice (some ad2) more.length c2] w fun e w' => e = .returned (.bool true) ∧ Below w.heap.size w w' := by
  obtain ⟨i0, hi, iz0, iz1, iz2⟩ := info_parts rune_info
  go_enter Try.func5, Try.ntmps5
  go_wp2_with (first
    | (at_builtin; refine wpList_append_own _ rfl _ _ 26 rfl w.heap.size 21 i0 (.int .i32 0) 1 4 Try.underlying26 hi iz0 iz1 iz2 rfl (by decide) (.slice none 0 0) 0 _ rfl (World.ownsRow_nil _ _ _ _) ad l.length c1 (l.map (Value.int .i32)) rfl (by simp) hcl1 h1l (by unfold maxLen; omega) (by omega) hz1 ?_; clear hcl1; intro v5 w5 hown5 hg5 _; have hB5 := below_grownOwn hbw1 (World.ownsRow_nil w1 w.heap.size 21 1) hg5 hz1 (Nat.le_refl _); have hz5 := hB5.size)
    | (at_builtin; refine wpList_append_own _ rfl _ _ 26 rfl w.heap.size 21 i0 (.int .i32 0) 1 4 Try.underlying26 hi iz0 iz1 iz2 rfl (by decide) v5 _ _ rfl hown5 ad2 more.length c2 (more.map (Value.int .i32)) rfl (by simp) (fun j u hu => by rw [hB5.cell (by rw [block_of_add]; exact hblk2 j u hu)]; exact hcm j u hu) h1m (by unfold maxLen; omega) (by omega) hz5 ?_; intro v6 w6 hown6 hg6 _; have hown7 : w6.ownsRow w.heap.size 21 1 v6 _ (lm.map (Value.int .i32)) := (by rw [Hm.out]; exact hown6); have hB6 := below_grownOwn hB5 hown5 hg6 hz5 (Nat.le_refl _); clear hown5 hown6; obtain ⟨A6, c6, rfl, _, _, hn6⟩ := Nums.of_own hown7; clear hown7)
    | (go_at_call 11; first | (refine (hbl _ _ _ hl hm).mono ?_; clear hbl; rintro e w1 ⟨rfl, hbw1⟩; have hz1 := hbw1.size; have hcl1 : ∀ j u, (l.map (Value.int .i32))[j]? = some u → w1.cell? (ad.add j) = some u := (fun j u hu => by rw [hbw1.cell (by rw [block_of_add]; exact hblk)]; exact hcl j u hu)) | (refine (hbm _ _ _ hn6 (hm.below hB6)).mono ?_; clear hbm; rintro e w7 ⟨rfl, hb7⟩; have hB7 := hB6.trans (hb7.mono hB6.size); have hx7 := (hB7.cell hblk).trans hx0; have hB8 := hB7.alloc hB7.size (.cells #[.int .i32 x] 21)) | (refine (hbo _ _ _ (by have := nums_new w7 21 [x] .i32; simpa using this) (hm.below hB8)).mono ?_; clear hbo; rintro e w9 ⟨rfl, hb9⟩; have hB9 := hB8.trans (hb9.mono hB8.size)))
    | (go_at_call 9; refine (bawake _ (hm.below hB9)).mono ?_; rintro e w10 ⟨rfl, hb10⟩))
  all_goals go_ret
  all_goals refine ⟨ret_bool ?_, hB9.trans (hb10.mono hB9.size)⟩
  all_goals first | rfl | simp
theorem longer_s2 (ad ad2 : Addr) (c1 c2 : Nat) (more : List Int) (ds : List UInt8) (dn : Int) (x : Int) (l lm : List Int) (bs : List UInt8) (w : World) (hl : Nums w w.heap.size .i32 (some ad) l) (hm : Max w) (hblk : ad.block < w.heap.size) (hcl : ∀ (j : Nat) (u : Value), (l.map (Value.int .i32))[j]? = some u → w.cell? (ad.add j) = some u) (hx0 : w.cell? ad = some (.int .i32 x)) (h1l : ∀ u ∈ l.map (Value.int .i32), u.oneCell' = true) (h2' : ¬ (l.length : Int) < 2) (h50' : ¬ (50 : Int) < l.length) (_hlen0 : (0 : Int) < l.length) (hbl : ∀ (A : Option Addr) (c : Nat) (w : World), Nums w w.heap.size .i32 A l → Max w → Calls Try.prog 11 #[.slice A l.length c] w fun e w' => e = .returned (.tuple #[.string ⟨bs.toArray⟩, .int .i64 2]) ∧ Below w.heap.size w w') (hbm : ∀ (A : Option Addr) (c : Nat) (w : World), Nums w w.heap.size .i32 A lm → Max w → Calls Try.prog 11 #[.slice A lm.length c] w fun e w' => e = .returned (.tuple #[.string ⟨bs.toArray⟩, .int .i64 2]) ∧ Below w.heap.size w w') (hbo : ∀ (A : Option Addr) (c : Nat) (w : World), Nums w w.heap.size .i32 A [x] → Max w → Calls Try.prog 11 #[.slice A 1 c] w fun e w' => e = .returned (.tuple #[.string ⟨ds.toArray⟩, .int .i64 dn]) ∧ Below w.heap.size w w') (Hm : Hid (lm.map (Value.int .i32) = l.map (Value.int .i32) ++ more.map (Value.int .i32))) (h51' : ¬ (50 : Int) < more.length) (hblk2 : ∀ (j : Nat) (u : Value), (more.map (Value.int .i32))[j]? = some u → ad2.block < w.heap.size) (hcm : ∀ (j : Nat) (u : Value), (more.map (Value.int .i32))[j]? = some u → w.cell? (ad2.add j) = some u) (h1m : ∀ u ∈ more.map (Value.int .i32), u.oneCell' = true) :
    Calls Try.prog 5 #[.slice (some ad) l.length c1, .slice (some ad2) more.length c2] w fun e w' => e = .returned (.bool true) ∧ Below w.heap.size w w' := by
  obtain ⟨i0, hi, iz0, iz1, iz2⟩ := info_parts rune_info
  go_enter Try.func5, Try.ntmps5
  go_wp2_with (first
    | (at_builtin; refine wpList_append_own _ rfl _ _ 26 rfl w.heap.size 21 i0 (.int .i32 0) 1 4 Try.underlying26 hi iz0 iz1 iz2 rfl (by decide) (.slice none 0 0) 0 _ rfl (World.ownsRow_nil _ _ _ _) ad l.length c1 (l.map (Value.int .i32)) rfl (by simp) hcl1 h1l (by unfold maxLen; omega) (by omega) hz1 ?_; clear hcl1; intro v5 w5 hown5 hg5 _; have hB5 := below_grownOwn hbw1 (World.ownsRow_nil w1 w.heap.size 21 1) hg5 hz1 (Nat.le_refl _); have hz5 := hB5.size)
    | (at_builtin; refine wpList_append_own _ rfl _ _ 26 rfl w.heap.size 21 i0 (.int .i32 0) 1 4 Try.underlying26 hi iz0 iz1 iz2 rfl (by decide) v5 _ _ rfl hown5 ad2 more.length c2 (more.map (Value.int .i32)) rfl (by simp) (fun j u hu => by rw [hB5.cell (by rw [block_of_add]; exact hblk2 j u hu)]; exact hcm j u hu) h1m (by unfold maxLen; omega) (by omega) hz5 ?_; intro v6 w6 hown6 hg6 _; have hown7 : w6.ownsRow w.heap.size 21 1 v6 _ (lm.map (Value.int .i32)) := (by rw [Hm.out]; exact hown6); have hB6 := below_grownOwn hB5 hown5 hg6 hz5 (Nat.le_refl _); clear hown5 hown6; obtain ⟨A6, c6, rfl, _, _, hn6⟩ := Nums.of_own hown7; clear hown7)
    | (go_at_call 11; first | (refine (hbl _ _ _ hl hm).mono ?_; clear hbl; rintro e w1 ⟨rfl, hbw1⟩; have hz1 := hbw1.size; have hcl1 : ∀ j u, (l.map (Value.int .i32))[j]? = some u → w1.cell? (ad.add j) = some u := (fun j u hu => by rw [hbw1.cell (by rw [block_of_add]; exact hblk)]; exact hcl j u hu)) | (refine (hbm _ _ _ hn6 (hm.below hB6)).mono ?_; clear hbm; rintro e w7 ⟨rfl, hb7⟩; have hB7 := hB6.trans (hb7.mono hB6.size); have hx7 := (hB7.cell hblk).trans hx0; have hB8 := hB7.alloc hB7.size (.cells #[.int .i32 x] 21)) | (refine (hbo _ _ _ (by have := nums_new w7 21 [x] .i32; simpa using this) (hm.below hB8)).mono ?_; clear hbo; rintro e w9 ⟨rfl, hb9⟩; have hB9 := hB8.trans (hb9.mono hB8.size)))
    | (go_at_call 9; refine (bawake _ (hm.below hB9)).mono ?_; rintro e w10 ⟨rfl, hb10⟩))
  all_goals go_ret
  all_goals refine ⟨ret_bool ?_, hB9.trans (hb10.mono hB9.size)⟩
  all_goals first | rfl | simp
theorem longer_law (A1 A2 : Option Addr) (c1 c2 : Nat) (l more : List Int) (w : World) (hl : Nums w w.heap.size .i32 A1 l) (hmo : Nums w w.heap.size .i32 A2 more) (hz2 : A2 = none → c2 = 0) (hm : Max w) :
    Calls Try.prog 5 #[.slice A1 l.length c1, .slice A2 more.length c2] w fun e w' => e = .returned (.bool true) ∧ Below w.heap.size w w' := by
  by_cases h2 : l.length < 2
  · go_enter Try.func5, Try.ntmps5
    have h2' : (l.length : Int) < 2 := by omega
    go_wp2_with (first | (go_at_call 9; refine (bawake _ hm).mono ?_; rintro e w3 ⟨rfl, hb3⟩))
    go_ret
    exact ⟨rfl, hb3⟩
  by_cases h50 : 50 < l.length
  · go_enter Try.func5, Try.ntmps5
    have h2' : ¬ (l.length : Int) < 2 := by omega
    have h50' : (50 : Int) < l.length := by omega
    go_wp2_with (first | (go_at_call 9; refine (bawake _ hm).mono ?_; rintro e w3 ⟨rfl, hb3⟩))
    go_ret
    exact ⟨rfl, hb3⟩
  by_cases h51 : 50 < more.length
  · go_enter Try.func5, Try.ntmps5
    have h2' : ¬ (l.length : Int) < 2 := by omega
    have h50' : ¬ (50 : Int) < l.length := by omega
    have h51' : (50 : Int) < more.length := by omega
    go_wp2_with (first | (go_at_call 9; refine (bawake _ hm).mono ?_; rintro e w3 ⟨rfl, hb3⟩))
    go_ret
    exact ⟨rfl, hb3⟩
  obtain ⟨ad, rfl, hblk, hcl⟩ := hl.2 (by omega)
  obtain ⟨x, y, r, hlr⟩ : ∃ x y r, l = x :: y :: r := by
    match l, h2 with
    | [], h => simp at h
    | [_], h => simp at h
    | x :: y :: r, _ => exact ⟨x, y, r, rfl⟩
  have hmore : bytesL (l ++ more) = bytesL l := by rw [hlr]; exact bytesL_more x y (r ++ more) r
  have hone : (bytesL l).2 ≠ 2 → bytesL l = bytesL [x] := by rw [hlr]; exact bytesL_one x y r
  have hx0 := hcl 0 (.int .i32 x) (by rw [hlr]; rfl)
  rw [Addr.add_zero'] at hx0
  have h1l : ∀ u ∈ l.map (Value.int .i32), u.oneCell' = true := by
    intro u hu
    obtain ⟨z, _, rfl⟩ := List.mem_map.1 hu
    rfl
  have h1m : ∀ u ∈ more.map (Value.int .i32), u.oneCell' = true := by
    intro u hu
    obtain ⟨z, _, rfl⟩ := List.mem_map.1 hu
    rfl
  have hbl := fun A c w hn hm => Bytes_any A c l w hn (by omega) hm
  have hbm := fun A c w hn hm => Bytes_any A c (l ++ more) w hn (by simp; omega) hm
  have hbo := fun A c w hn hm => Bytes_any A c [x] w hn (by simp) hm
  rw [hmore] at hbm
  clear hlr
  have h2' : ¬ (l.length : Int) < 2 := by omega
  have h50' : ¬ (50 : Int) < l.length := by omega
  have h51' : ¬ (50 : Int) < more.length := by omega
  have hlen0 : (0 : Int) < l.length := by omega
  generalize hbL : bytesL l = bl at *
  clear hbL
  obtain ⟨bs, bn⟩ := bl
  have hcases : bytesL [x] = (bs, bn) ∨ bn = 2 := by
    by_cases hN : bn = 2
    · exact .inr hN
    · exact .inl (hone hN).symm
  clear hone
  obtain ⟨lm, hlm⟩ : ∃ lm, lm = l ++ more := ⟨_, rfl⟩
  rw [← hlm] at hbm
  rcases A2 with _ | ad2
  · have hm0 : more = [] := by
      match more, hmo with
      | [], _ => rfl
      | z :: zs, h => obtain ⟨_, hh, _⟩ := h.2 (by simp); cases hh
    obtain rfl := hz2 rfl
    subst hm0
    have Hm := Lib.hid (show lm.map (Value.int .i32) = l.map (Value.int .i32) by rw [hlm, List.append_nil])
    rcases hcases with hone | rfl
    · rw [hone] at hbo
      exact longer_n1 ad c1 x l lm bs bn w hl hm hblk hcl hx0 h1l h2' h50' hlen0 hbl hbm hbo Hm
    · exact longer_n2 ad c1 _ _ x l lm bs w hl hm hblk hcl hx0 h1l h2' h50' hlen0 hbl hbm hbo Hm
  · have hpos : ∀ (j : Nat) (u : Value), (more.map (Value.int .i32))[j]? = some u → 0 < more.length := by
      intro j u hu
      have := (List.getElem?_eq_some_iff.1 hu).1
      simp at this; omega
    have hcm : ∀ (j : Nat) (u : Value), (more.map (Value.int .i32))[j]? = some u → w.cell? (ad2.add j) = some u := by
      intro j u hu
      obtain ⟨ad', e, _, h⟩ := hmo.2 (hpos j u hu)
      cases e
      exact h j u hu
    have hblk2 : ∀ (j : Nat) (u : Value), (more.map (Value.int .i32))[j]? = some u → ad2.block < w.heap.size := by
      intro j u hu
      obtain ⟨ad', e, h, _⟩ := hmo.2 (hpos j u hu)
      cases e
      exact h
    have Hm := Lib.hid (show lm.map (Value.int .i32) = l.map (Value.int .i32) ++ more.map (Value.int .i32) by rw [hlm, List.map_append])
    rcases hcases with hone | rfl
    · rw [hone] at hbo
      exact longer_s1 ad ad2 c1 c2 more x l lm bs bn w hl hm hblk hcl hx0 h1l h2' h50' hlen0 hbl hbm hbo Hm h51' hblk2 hcm h1m
    · exact longer_s2 ad ad2 c1 c2 more _ _ x l lm bs w hl hm hblk hcl hx0 h1l h2' h50' hlen0 hbl hbm hbo Hm h51' hblk2 hcm h1m
end Go.Proofs.Ytnalckiibcbgoaa
