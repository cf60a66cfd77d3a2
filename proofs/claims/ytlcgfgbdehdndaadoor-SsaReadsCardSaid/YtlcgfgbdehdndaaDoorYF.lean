/- Lines of a text; contract of line.Lines; condition: at most 1,000,000 bytes. -/
import Derived.Test.YtlcgfgbdehdndaaDoorYE
set_option maxRecDepth 100000
set_option maxHeartbeats 2000000
namespace Go.Proofs.YtlcgfgbdehdndaaDoor
open Go Go.RowKit

abbrev Ln := List UInt8 × List UInt8 × Nat
def lnV (x : Ln) : List Value := [.string (B x.1), .string (B x.2.1), .int .i64 x.2.2]
def linesF : Nat → List UInt8 → Nat → List Ln
  | 0, _, _ => []
  | f + 1, r, i => if r = [] then [] else (lnT r, lnE r, i) :: linesF f (r.drop ((lnT r).length + (lnE r).length)) (i + ((lnT r).length + (lnE r).length))
def linesL (t : List UInt8) : List Ln := linesF t.length t 0
theorem eol_pos {r : List UInt8} (h : r ≠ []) : 0 < (lnT r).length + (lnE r).length := by
  by_cases h0 : (lnT r).length = 0
  · obtain ⟨c, l, rfl⟩ := List.exists_cons_of_ne_nil h
    unfold lnE
    rw [h0, List.drop_zero]
    have : 0 < (eolOf (c :: l)).length := by
      unfold eolOf
      split
      · simp
      · simp
      · rename_i e; cases e
    omega
  · omega
theorem ln_le (r : List UInt8) : (lnT r).length + (lnE r).length ≤ r.length := by
  obtain ⟨t, ht⟩ := ln_pre r
  have := congrArg List.length ht
  simp only [List.length_append] at this
  omega
theorem linesF_nil (f i : Nat) : linesF f [] i = [] := by cases f <;> simp [linesF]
theorem flat3 {α : Type} (f : α → List Value) (hf : ∀ x, (f x).length = 3) : ∀ l : List α, (l.flatMap f).length = l.length * 3
  | [] => rfl
  | x :: l => by rw [List.flatMap_cons, List.length_append, hf, flat3 f hf l, List.length_cons]; omega
theorem flat3_at {α : Type} (f : α → List Value) (hf : ∀ x, (f x).length = 3) : ∀ (l : List α) (k j : Nat) (x : α), l[k]? = some x → j < 3 → (l.flatMap f)[k * 3 + j]? = (f x)[j]?
  | y :: l, 0, j, x, h, hj => by
    simp only [List.getElem?_cons_zero, Option.some.injEq] at h
    subst h
    rw [List.flatMap_cons, List.getElem?_append_left (by rw [hf]; omega)]
    congr 1
    omega
  | y :: l, k + 1, j, x, h, hj => by
    rw [List.getElem?_cons_succ] at h
    rw [List.flatMap_cons, List.getElem?_append_right (by rw [hf]; omega), hf, ← flat3_at f hf l k j x h hj]
    congr 1
    omega
theorem own_old {w : World} {base : Nat} {e : TypeId} {size : Nat} {v : Value} {n : Nat} {xs : List Value} (h : w.ownsRow base e size v n xs) {K : Nat} (hK : w.heap.size ≤ K) : some K ≠ v.ownBlock := fun e => by
  have := h.lt K e.symm
  omega
theorem heap_below {w w' : World} {K : Nat} {o : Obj} (h : w.heap[K]? = some o) (hb : Below w.heap.size w w') : w'.heap[K]? = some o := by
  rw [hb.block K (Array.getElem?_eq_some_iff.1 h).1, h]
theorem heap_grown {w w' : World} {K : Nat} {o : Obj} {row : Option Nat} (h : w.heap[K]? = some o) (hg : w.grownBy w' row) (hne : some K ≠ row) : w'.heap[K]? = some o := by
  rw [hg.block K (Array.getElem?_eq_some_iff.1 h).1 hne, h]
theorem heap_more {w : World} {K : Nat} {o : Obj} (h : w.heap[K]? = some o) (o' : Obj) : (w.alloc o').heap[K]? = some o := heap_below h ((Below.refl _ _).alloc (Nat.le_refl _) _)
theorem three_new (w : World) (x y z : Value) (t : TypeId) : ∀ j u, [x, y, z][j]? = some u → (w.alloc (.cells #[x, y, z] t)).cell? ((⟨w.heap.size, 0, none⟩ : Addr).add j) = some u := by
  intro j u hu
  have hadd : (⟨w.heap.size, 0, none⟩ : Addr).add j = ⟨w.heap.size, j, none⟩ := by unfold Addr.add; split <;> simp_all
  rw [hadd, cell_of_row _ w.heap.size j _ t (0, 0) (heap_alloc_new w _)]
  simpa using hu
theorem cells3 {w : World} {K : Nat} {t : TypeId} {x y z : Value} (h : w.heap[K]? = some (.cells #[x, y, z] t (0, 0))) : w.cell? ⟨K, 0, none⟩ = some x ∧ w.cell? ⟨K, 1, none⟩ = some y ∧ w.cell? ⟨K, 2, none⟩ = some z := by
  rw [cell_of_row _ K 0 _ t (0, 0) h, cell_of_row _ K 1 _ t (0, 0) h, cell_of_row _ K 2 _ t (0, 0) h]
  exact ⟨rfl, rfl, rfl⟩
/-- A slice of three cells an element, from the head of a row on; nil if it is empty. -/
def Rows3 {α : Type} (f : α → List Value) (w : World) (v : Value) (l : List α) : Prop :=
  (l = [] ∧ v = .slice none 0 0) ∨ ∃ bk c : Nat, l ≠ [] ∧ v = .slice (some ⟨bk, 0, none⟩) l.length c ∧ l.length ≤ c ∧ bk < w.heap.size ∧ ∀ j u, (l.flatMap f)[j]? = some u → w.cell? ⟨bk, j, none⟩ = some u
theorem Rows3.below {α : Type} {f : α → List Value} {w w' : World} {v : Value} {l : List α} (h : Rows3 f w v l) (hb : Below w.heap.size w w') : Rows3 f w' v l := by
  rcases h with h | ⟨bk, c, h0, h1, h2, h3, h4⟩
  · exact .inl h
  · exact .inr ⟨bk, c, h0, h1, h2, Nat.lt_of_lt_of_le h3 hb.size, fun j u hu => (hb.cell (p := ⟨bk, j, none⟩) h3).trans (h4 j u hu)⟩
theorem Rows3.of_own {α : Type} {f : α → List Value} {w : World} {base : Nat} {e : TypeId} {v : Value} {l : List α} {n : Nat} (hn : n = l.length) (h : w.ownsRow base e 3 v n (l.flatMap f)) (h0 : l = [] → v = .slice none 0 0) : Rows3 f w v l := by
  by_cases hl : l = []
  · exact .inl ⟨hl, h0 hl⟩
  · right
    rcases h.2 with ⟨_, h1⟩ | ⟨g, cap, cur, rfl, hb, hg, hnc, hcm, hcs, htake⟩
    · rw [hn] at h1
      exact absurd (List.length_eq_zero_iff.1 h1) hl
    · subst hn
      refine ⟨g, cap, hl, rfl, hnc, (Array.getElem?_eq_some_iff.1 hg).1, fun j u hu => ?_⟩
      have := h.cells (g := g) rfl j u hu
      have hadd : (⟨g, 0, none⟩ : Addr).add j = ⟨g, j, none⟩ := by unfold Addr.add; split <;> simp_all
      rw [hadd] at this
      exact this
theorem Rows3.set2 {α : Type} {f : α → List Value} {w : World} {base : Nat} {e : TypeId} {v : Value} {l : List α} (h : Rows3 f w v l) (ho : w.ownsRow base e 3 v l.length (l.flatMap f)) {p q : Addr} (hp : p.block < base) (hq : q.block < base) (x y : Value) : Rows3 f ((w.setCell p x).setCell q y) v l := by
  rcases h with h | ⟨bk, c, h0, rfl, h2, h3, h4⟩
  · exact .inl h
  · have hb : base ≤ bk := by
      rcases ho.2 with ⟨h1, _⟩ | ⟨g, cap, cur, h1, hb, _⟩
      · simp at h1
      · simp only [Value.slice.injEq, Option.some.injEq, Addr.mk.injEq] at h1
        omega
    refine .inr ⟨bk, c, h0, rfl, h2, by simpa using h3, fun j u hu => ?_⟩
    rw [World.cell?_setCell_other _ q _ y (fun e => by subst e; simp at hq; omega), World.cell?_setCell_other _ p _ x (fun e => by subst e; simp at hp; omega)]
    exact h4 j u hu
theorem Rows3.at_ {α : Type} {f : α → List Value} (hf : ∀ x, (f x).length = 3) {w : World} {bk : Nat} {l : List α} (h : ∀ j u, (l.flatMap f)[j]? = some u → w.cell? ⟨bk, j, none⟩ = some u) {k : Nat} {x : α} {a b c : Value} (hx : l[k]? = some x) (hv : f x = [a, b, c]) :
    w.cell? ⟨bk, k * 3, none⟩ = some a ∧ w.cell? ⟨bk, k * 3 + 1, none⟩ = some b ∧ w.cell? ⟨bk, k * 3 + 2, none⟩ = some c := by
  refine ⟨h _ _ ?_, h _ _ ?_, h _ _ ?_⟩
  · have := flat3_at f hf l k 0 x hx (by omega); rw [hv] at this; exact this
  · rw [flat3_at f hf l k 1 x hx (by omega), hv]; rfl
  · rw [flat3_at f hf l k 2 x hx (by omega), hv]; rfl
theorem line_info : (Tryd.prog.info? 57).map (fun i => (i.zero, i.size, i.bytes)) = some (some (.agg #[.string ⟨#[]⟩, .string ⟨#[]⟩, .int .i64 0]), 3, 40) := by kernel_rfl
def LsRel (t : List UInt8) (w0 : World) (v i : Value) (wr : World) : Prop := ∃ (done : List Ln) (k f : Nat), k ≤ t.length ∧ i = .int .i64 k ∧ linesL t = done ++ linesF f (t.drop k) k ∧ t.length - k ≤ f ∧ done.length ≤ k ∧ wr.ownsRow w0.heap.size 57 3 v done.length (done.flatMap lnV) ∧ (done = [] → v = .slice none 0 0) ∧ Below w0.heap.size w0 wr
def LsPost (t : List UInt8) (w0 : World) (e : Ending) (w' : World) : Prop := ∃ v, e = .returned v ∧ Rows3 lnV w' v (linesL t) ∧ Below w0.heap.size w0 w'
theorem Lines_any (s : ByteArray) (hs : s.size ≤ 1000000) (w : World) :
    Calls Tryd.prog 35 #[.string s] w (LsPost s.data.toList w) := by
  generalize hP : LsPost s.data.toList w = P at *
  obtain ⟨i0, hi, iz0, iz1, iz2⟩ := info_parts line_info
  have hlen := len_data s
  go_enter Tryd.func35, Tryd.ntmps35
  go_wp2_with fail
  go_loopw [3, 4] (fun v i wr => LsRel s.data.toList w v i wr) (fun _ i _ => s.size - (intOf i).toNat)
  case atStart => exact ⟨[], 0, s.data.toList.length, by omega, rfl, rfl, by omega, by simp, ⟨rfl, .inl ⟨rfl, rfl⟩⟩, fun _ => rfl, Below.refl _ _⟩
  case round =>
    obtain ⟨done, k, f, hk, rfl, hl, hf, hd, hown, h0, hb⟩ := hrel
    rw [hlen] at hk hf
    by_cases hlt : k < s.size
    · have hnx := fun w => Next_any s k (by omega) (by omega) w
      unfold NxPost at hnx
      have hrl : (s.data.toList.drop k).length = s.size - k := by rw [List.length_drop, hlen]
      have hne : s.data.toList.drop k ≠ [] := by intro e; rw [e] at hrl; simp at hrl; omega
      have hpos := eol_pos hne
      have hle := ln_le (s.data.toList.drop k)
      obtain ⟨f', rfl⟩ : ∃ f', f = f' + 1 := ⟨f - 1, by omega⟩
      have hst : linesL s.data.toList = (done ++ [(lnT (s.data.toList.drop k), lnE (s.data.toList.drop k), k)]) ++ linesF f' (s.data.toList.drop (k + ((lnT (s.data.toList.drop k)).length + (lnE (s.data.toList.drop k)).length))) (k + ((lnT (s.data.toList.drop k)).length + (lnE (s.data.toList.drop k)).length)) := by
        rw [hl, linesF, if_neg hne, List.drop_drop, List.append_assoc]
        rfl
      have Hst := Lib.hid hst
      have s1 := B_size (lnT (s.data.toList.drop k))
      have s2 := B_size (lnE (s.data.toList.drop k))
      rw [hrl] at hle
      clear hst hl hne hrl
      generalize lnT (s.data.toList.drop k) = T at *
      generalize lnE (s.data.toList.drop k) = E at *
      have hz := hb.size
      go_wp2_with (first | (go_at_call 25; refine (hnx _).mono ?_; rintro e w1 ⟨rfl, hb1⟩; have hz1 := hb1.size; have hown1 := own_below hown hb1) | (at_builtin; refine wpList_append_own _ rfl _ _ 69 rfl w.heap.size 57 i0 _ 3 40 Tryd.underlying69 hi iz0 iz1 iz2 rfl (by decide) _ done.length _ rfl ((hown1.alloc _).alloc _) ⟨w1.heap.size + 1, 0, none⟩ 1 1 [.string (B T), .string (B E), .int .i64 k] rfl rfl ?c1 ?c2 ?c3 ?c4 ?c5 ?_))
      case c1 => have := three_new (w1.alloc (.cells #[.string (B T), .string (B E), .int .i64 k] 57)) (.string (B T)) (.string (B E)) (.int .i64 k) 57; simpa using this
      case c2 => intro u hu; simp at hu; rcases hu with rfl | rfl | rfl <;> rfl
      case c3 => unfold maxLen; omega
      case c4 => omega
      case c5 => simp; omega
      intro v' w2 hown2 hg2 h02
      have hbx := heap_grown (heap_more (heap_alloc_new w1 (.cells #[.string (B T), .string (B E), .int .i64 k] 57)) (.cells #[.string (B T), .string (B E), .int .i64 k] 57)) hg2 (own_old hown1 (Nat.le_refl _))
      obtain ⟨c0, c1, c2⟩ := cells3 hbx
      have hB1 := hb.trans (hb1.mono hz)
      have hz2 : w.heap.size ≤ w1.heap.size := Nat.le_trans hz hz1
      have hB2 := below_grownOwn ((hB1.alloc hz2 (.cells #[.string (B T), .string (B E), .int .i64 k] 57)).alloc (by simp; omega) (.cells #[.string (B T), .string (B E), .int .i64 k] 57)) ((hown1.alloc _).alloc _) hg2 (by simp; omega) (Nat.le_refl _)
      have hdn : (done ++ [(T, E, k)]).length = done.length + 1 := by simp
      have hfl : done.flatMap lnV ++ [.string (B T), .string (B E), .int .i64 k] = (done ++ [(T, E, k)]).flatMap lnV := by rw [List.flatMap_append]; rfl
      have Hfl := Lib.hid hfl
      have Hdn := Lib.hid hdn
      have H02 := Lib.hid h02
      have Hown2 := Lib.hid hown2
      clear hown2 hown1 hown hg2 hbx hfl hdn h02 h0
      go_wp2_with fail
      go_roundw
      case rel =>
        refine ⟨done ++ [(T, E, k)], k + (T.length + E.length), f', by omega, by simp, Hst.out, by omega, ?_, ?_, ?_, hB2⟩
        · rw [Hdn.out]; omega
        · rw [Hdn.out, ← Hfl.out]; exact Hown2.out
        · intro e; simp at e
      case measure => simp [intOf]; omega
    · have hk2 : k = s.size := by omega
      have he : linesL s.data.toList = done := by rw [hl, List.drop_of_length_le (by omega), linesF_nil, List.append_nil]
      have He := Lib.hid he
      have Hown := Lib.hid hown
      have H0 := Lib.hid h0
      clear hl he hk2 hown h0
      go_wp2_with fail
      show P (.returned _) _
      rw [← hP]
      refine ⟨_, rfl, ?_, hb⟩
      rw [He.out]
      exact Rows3.of_own rfl Hown.out H0.out
end Go.Proofs.YtlcgfgbdehdndaaDoor
