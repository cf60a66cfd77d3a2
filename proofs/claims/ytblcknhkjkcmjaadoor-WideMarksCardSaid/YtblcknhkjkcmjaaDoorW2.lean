/- Contract of wide.join for one unit and for two; condition: the units are below 65536, and memory is short of its bound. -/
import Derived.Test.YtblcknhkjkcmjaaDoorW1
set_option maxRecDepth 100000
set_option maxHeartbeats 1000000
namespace Go.Proofs.YtblcknhkjkcmjaaDoor
open Go Go.RowKit

def twoZ (big : Bool) (u : Int) : List Int := if big then [u / 256, u % 256] else [u % 256, u / 256]
def wencZ (big : Bool) (p : Int) : List Int := if p < 65536 then twoZ big p else twoZ big (55296 + (p - 65536) / 1024) ++ twoZ big (56320 + (p - 65536) % 1024)
def wtextZ (big : Bool) (ps : List Int) : List Int := ps.flatMap (wencZ big)
theorem wtextZ_snoc (big : Bool) (a : List Int) (p : Int) : wtextZ big (a ++ [p]) = wtextZ big a ++ wencZ big p := by simp [wtextZ]
theorem wencZ_bytes (big : Bool) (p : Int) : (wencZ big p).map (fun z => z.toNat.toUInt8) = wenc big p := by
  unfold wencZ wenc twoZ two
  cases big <;> by_cases h : p < 65536 <;> simp [h]
theorem wencZ_len (big : Bool) (p : Int) : (wencZ big p).length = (wenc big p).length := by rw [← wencZ_bytes, List.length_map]
theorem wtextZ_bytes (big : Bool) (ps : List Int) : (wtextZ big ps).map (fun z => z.toNat.toUInt8) = wtext big ps := by
  induction ps with
  | nil => rfl
  | cons p ps ih =>
    rw [wtext_cons, ← ih, ← wencZ_bytes]
    simp [wtextZ]
theorem strOfNums_wtext (big : Bool) (ps : List Int) : strOfNums (wtextZ big ps) = ⟨(wtext big ps).toArray⟩ := by
  rw [← wtextZ_bytes]; rfl

theorem cell_two_new (w : World) (x y : Value) (t : TypeId) : ∀ j u, [x, y][j]? = some u → (w.alloc (.cells #[x, y] t)).cell? ((⟨w.heap.size, 0, none⟩ : Addr).add j) = some u := by
  intro j u hu
  have hadd : (⟨w.heap.size, 0, none⟩ : Addr).add j = ⟨w.heap.size, j, none⟩ := by unfold Addr.add; split <;> simp_all
  rw [hadd, cell_of_row _ w.heap.size j _ t (0, 0) (heap_alloc_new w _)]
  simpa using hu
theorem own_lt {w : World} {base : Nat} {e : TypeId} {size : Nat} {v : Value} {n : Nat} {xs : List Value} (h : w.ownsRow base e size v n xs) {g : Nat} (hg : v.ownBlock = some g) : g < w.heap.size := by
  rcases h.2 with ⟨rfl, _⟩ | ⟨g', cap, cur, rfl, hb, hq, rest⟩
  · simp [Value.ownBlock] at hg
  · have : g' = g := by simpa [Value.ownBlock] using hg
    subst this
    exact (Array.getElem?_eq_some_iff.1 hq).1

def KeepIter (w w' : World) : Prop := ∀ (K : Nat) s i, w.heap[K]? = some (.stringIter s i) → w'.heap[K]? = some (.stringIter s i)
theorem KeepIter.alloc (w : World) (o : Obj) : KeepIter w (w.alloc o) := fun K s i h => by
  have := Below.heap_alloc w o K (iter_lt h)
  rw [this, h]
theorem KeepIter.trans {a b c : World} (h : KeepIter a b) (k : KeepIter b c) : KeepIter a c := fun K s i hk => k K s i (h K s i hk)
theorem KeepIter.grown {w w' : World} {base : Nat} {e : TypeId} {size : Nat} {v : Value} {n : Nat} {xs : List Value} (h : w.ownsRow base e size v n xs) (hg : w.grownBy w' v.ownBlock) : KeepIter w w' := fun K s i hk => by
  rw [hg.block K (iter_lt hk) (iter_ne h hk), hk]

theorem cell_lt {w : World} {a : Addr} {v : Value} (h : w.cell? a = some v) : a.block < w.heap.size := by
  by_cases hlt : a.block < w.heap.size
  · exact hlt
  · rw [World.cell?] at h
    simp [Array.getElem?_eq_none (Nat.le_of_not_lt hlt)] at h
theorem grown_cell {w w' : World} {row : Option Nat} (hg : w.grownBy w' row) {p : Addr} (hp : p.block < w.heap.size) (hr : some p.block ≠ row) : w'.cell? p = w.cell? p := by
  simp only [World.cell?, hg.block p.block hp hr]

theorem Join_one (big : Bool) (u : Int) (hu : 0 ≤ u ∧ u < 65536) (b c B n : Nat) (v : Value) (xs : List Value) (w : World) (hown : w.ownsRow B 5 1 v n xs) (hc : w.cell? ⟨b, 0, none⟩ = some (.int .i32 u))
    (hlen : n + 2 ≤ 140737488355328) (hB : B ≤ w.heap.size) :
    Calls Tryd.prog 59 #[v, .bool big, .slice (some ⟨b, 0, none⟩) 1 c] w fun e w' => ∃ v', e = .returned v' ∧ w'.ownsRow B 5 1 v' (n + 2) (xs ++ (twoZ big u).map (Value.int .u8)) ∧ Below B w w' ∧ KeepIter w w' := by
  obtain ⟨i0, hi, iz0, iz1, iz2⟩ := info_parts byte_info
  have hu1 := hu.1
  have hu2 := hu.2
  go_enter Tryd.func59, Tryd.ntmps59
  go_wp2_with fail
  refine wp_loop_rounds 2 ?_
  rw [rounds_succ]
  cases big
  · go_wp2_with (at_builtin; refine wpList_append_own _ rfl _ _ 37 rfl B 5 i0 (.int .u8 0) 1 1 Tryd.underlying37 hi iz0 iz1 iz2 rfl (by decide) v n _ rfl (hown.alloc _) ⟨w.heap.size, 0, none⟩ 2 2 [_, _] rfl rfl (cell_two_new _ _ _ _) (by intro u hu; simp at hu; rcases hu with rfl | rfl <;> rfl) (by unfold maxLen; omega) (by omega) (by simp; omega) ?_; intro v' w5 hown5 hg5 _)
    rw [rounds_succ]
    go_wp2_with fail
    go_ret
    have hb5 := below_grownOwn (((Below.refl B w)).alloc hB (.cells #[.int .u8 (u % 256), .int .u8 (u / 256)] 5)) (hown.alloc _) hg5 (by simp; omega) (Nat.le_refl _)
    exact ⟨v', rfl, hown5, hb5, (KeepIter.alloc _ _).trans (KeepIter.grown (hown.alloc _) hg5)⟩
  · go_wp2_with (at_builtin; refine wpList_append_own _ rfl _ _ 37 rfl B 5 i0 (.int .u8 0) 1 1 Tryd.underlying37 hi iz0 iz1 iz2 rfl (by decide) v n _ rfl (hown.alloc _) ⟨w.heap.size, 0, none⟩ 2 2 [_, _] rfl rfl (cell_two_new _ _ _ _) (by intro u hu; simp at hu; rcases hu with rfl | rfl <;> rfl) (by unfold maxLen; omega) (by omega) (by simp; omega) ?_; intro v' w5 hown5 hg5 _)
    rw [rounds_succ]
    go_wp2_with fail
    go_ret
    have hb5 := below_grownOwn (((Below.refl B w)).alloc hB (.cells #[.int .u8 (u / 256), .int .u8 (u % 256)] 5)) (hown.alloc _) hg5 (by simp; omega) (Nat.le_refl _)
    exact ⟨v', rfl, hown5, hb5, (KeepIter.alloc _ _).trans (KeepIter.grown (hown.alloc _) hg5)⟩

theorem Join_two (big : Bool) (u t : Int) (hu : 0 ≤ u ∧ u < 65536) (ht : 0 ≤ t ∧ t < 65536) (b c B n : Nat) (v : Value) (xs : List Value) (w : World) (hown : w.ownsRow B 5 1 v n xs)
    (hc : w.cell? ⟨b, 0, none⟩ = some (.int .i32 u)) (hd : w.cell? ⟨b, 1, none⟩ = some (.int .i32 t)) (hne : v.ownBlock ≠ some b)
    (hlen : n + 4 ≤ 140737488355328) (hB : B ≤ w.heap.size) :
    Calls Tryd.prog 59 #[v, .bool big, .slice (some ⟨b, 0, none⟩) 2 c] w fun e w' => ∃ v', e = .returned v' ∧ w'.ownsRow B 5 1 v' (n + 2 + 2) (xs ++ (twoZ big u).map (Value.int .u8) ++ (twoZ big t).map (Value.int .u8)) ∧ Below B w w' ∧ KeepIter w w' := by
  obtain ⟨i0, hi, iz0, iz1, iz2⟩ := info_parts byte_info
  have hu1 := hu.1
  have hu2 := hu.2
  have ht1 := ht.1
  have ht2 := ht.2
  have hlt := cell_lt hd
  have hne1 : some b ≠ v.ownBlock := fun e => hne e.symm
  go_enter Tryd.func59, Tryd.ntmps59
  go_wp2_with fail
  refine wp_loop_rounds 3 ?_
  rw [rounds_succ]
  cases big
  · go_wp2_with (at_builtin; refine wpList_append_own _ rfl _ _ 37 rfl B 5 i0 (.int .u8 0) 1 1 Tryd.underlying37 hi iz0 iz1 iz2 rfl (by decide) v n _ rfl (hown.alloc _) ⟨w.heap.size, 0, none⟩ 2 2 [_, _] rfl rfl (cell_two_new _ _ _ _) (by intro u hu; simp at hu; rcases hu with rfl | rfl <;> rfl) (by unfold maxLen; omega) (by omega) (by simp; omega) ?_; intro v' w5 hown5 hg5 _)
    have hb5 := below_grownOwn (((Below.refl B w)).alloc hB (.cells #[.int .u8 (u % 256), .int .u8 (u / 256)] 5)) (hown.alloc _) hg5 (by simp; omega) (Nat.le_refl _)
    have hk5 := (KeepIter.alloc _ _).trans (KeepIter.grown (hown.alloc (.cells #[.int .u8 (u % 256), .int .u8 (u / 256)] 5)) hg5)
    have hd5 : w5.cell? ⟨b, 1, none⟩ = some (.int .i32 t) := by
      rw [grown_cell hg5 (by simp; omega) hne1, World.cell?_alloc_lt w _ _ hlt, hd]
    have hs5 := hb5.size
    rw [rounds_succ]
    go_wp2_with (at_builtin; refine wpList_append_own _ rfl _ _ 37 rfl B 5 i0 (.int .u8 0) 1 1 Tryd.underlying37 hi iz0 iz1 iz2 rfl (by decide) v' (n + 2) _ rfl (hown5.alloc _) ⟨w5.heap.size, 0, none⟩ 2 2 [_, _] rfl rfl (cell_two_new _ _ _ _) (by intro u hu; simp at hu; rcases hu with rfl | rfl <;> rfl) (by unfold maxLen; omega) (by omega) (by simp; omega) ?_; intro v'' w6 hown6 hg6 _)
    have hb6 := below_grownOwn (hb5.alloc (by omega) (.cells #[.int .u8 (t % 256), .int .u8 (t / 256)] 5)) (hown5.alloc _) hg6 (by simp; omega) (Nat.le_refl _)
    have hk6 := hk5.trans ((KeepIter.alloc _ _).trans (KeepIter.grown (hown5.alloc (.cells #[.int .u8 (t % 256), .int .u8 (t / 256)] 5)) hg6))
    rw [rounds_succ]
    go_wp2_with fail
    go_ret
    exact ⟨v'', rfl, hown6, hb6, hk6⟩
  · go_wp2_with (at_builtin; refine wpList_append_own _ rfl _ _ 37 rfl B 5 i0 (.int .u8 0) 1 1 Tryd.underlying37 hi iz0 iz1 iz2 rfl (by decide) v n _ rfl (hown.alloc _) ⟨w.heap.size, 0, none⟩ 2 2 [_, _] rfl rfl (cell_two_new _ _ _ _) (by intro u hu; simp at hu; rcases hu with rfl | rfl <;> rfl) (by unfold maxLen; omega) (by omega) (by simp; omega) ?_; intro v' w5 hown5 hg5 _)
    have hb5 := below_grownOwn (((Below.refl B w)).alloc hB (.cells #[.int .u8 (u / 256), .int .u8 (u % 256)] 5)) (hown.alloc _) hg5 (by simp; omega) (Nat.le_refl _)
    have hk5 := (KeepIter.alloc _ _).trans (KeepIter.grown (hown.alloc (.cells #[.int .u8 (u / 256), .int .u8 (u % 256)] 5)) hg5)
    have hd5 : w5.cell? ⟨b, 1, none⟩ = some (.int .i32 t) := by
      rw [grown_cell hg5 (by simp; omega) hne1, World.cell?_alloc_lt w _ _ hlt, hd]
    have hs5 := hb5.size
    rw [rounds_succ]
    go_wp2_with (at_builtin; refine wpList_append_own _ rfl _ _ 37 rfl B 5 i0 (.int .u8 0) 1 1 Tryd.underlying37 hi iz0 iz1 iz2 rfl (by decide) v' (n + 2) _ rfl (hown5.alloc _) ⟨w5.heap.size, 0, none⟩ 2 2 [_, _] rfl rfl (cell_two_new _ _ _ _) (by intro u hu; simp at hu; rcases hu with rfl | rfl <;> rfl) (by unfold maxLen; omega) (by omega) (by simp; omega) ?_; intro v'' w6 hown6 hg6 _)
    have hb6 := below_grownOwn (hb5.alloc (by omega) (.cells #[.int .u8 (t / 256), .int .u8 (t % 256)] 5)) (hown5.alloc _) hg6 (by simp; omega) (Nat.le_refl _)
    have hk6 := hk5.trans ((KeepIter.alloc _ _).trans (KeepIter.grown (hown5.alloc (.cells #[.int .u8 (t / 256), .int .u8 (t % 256)] 5)) hg6))
    rw [rounds_succ]
    go_wp2_with fail
    go_ret
    exact ⟨v'', rfl, hown6, hb6, hk6⟩
end Go.Proofs.YtblcknhkjkcmjaaDoor
