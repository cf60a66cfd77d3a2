/- Contract: single.Set.Decode: the text of bytes by a table's pairs; no condition but the lengths. -/
import Derived.Test.YtpnjandlpbjddabDoorKC
set_option maxRecDepth 100000
set_option maxHeartbeats 4000000
namespace Go.Proofs.YtpnjandlpbjddabDoor
open Go Go.RowKit

/-- All but the two blocks from K on stands as it was. -/
structure Two (K : Nat) (w w' : World) : Prop where
  os : w'.os = w.os
  tape : w'.tape = w.tape
  output : w'.output = w.output
  size : w.heap.size ≤ w'.heap.size
  block : ∀ k, k < w.heap.size → k ≠ K → k ≠ K + 1 → w'.heap[k]? = w.heap[k]?
theorem Two.of {K : Nat} {w w' : World} (h : Below w.heap.size w w') : Two K w w' := ⟨h.os, h.tape, h.output, h.size, fun k hk _ _ => h.block k hk⟩
theorem Two.trans {K : Nat} {a b c : World} (h : Two K a b) (g : Two K b c) : Two K a c :=
  ⟨g.os.trans h.os, g.tape.trans h.tape, g.output.trans h.output, Nat.le_trans h.size g.size, fun k hk h1 h2 => (g.block k (Nat.lt_of_lt_of_le hk h.size) h1 h2).trans (h.block k hk h1 h2)⟩
theorem Two.set {K j : Nat} {w : World} {p : Nat} (hp : p = K ∨ p = K + 1) (v : Value) : Two K w (w.setCell ⟨p, j, none⟩ v) :=
  have h := (Below.refl p w).setCell (p := ⟨p, j, none⟩) (Nat.le_refl p) v
  ⟨h.os, h.tape, h.output, h.size, fun k _ h1 h2 => heap_set (by rcases hp with rfl | rfl <;> assumption) v⟩
theorem Two.below {K B : Nat} {w w' : World} (h : Two K w w') (hB : B ≤ K) (hs : B ≤ w.heap.size) : Below B w w' := ⟨h.os, h.tape, h.output, h.size, fun k hk => h.block k (by omega) (by omega) (by omega)⟩
theorem Two.cell {K : Nat} {w w' : World} (h : Two K w w') {p : Addr} (hp : p.block < w.heap.size) (h1 : p.block ≠ K) (h2 : p.block ≠ K + 1) : w'.cell? p = w.cell? p := World.cell?_of_block (w := w) (h.block p.block hp h1 h2)
theorem Two.frozen {K : Nat} {w w' : World} (h : Two K w w') {p : Addr} (hp : p.block < w.heap.size) (h1 : p.block ≠ K) (h2 : p.block ≠ K + 1) : w'.frozen? p = w.frozen? p := World.frozen?_of_block (w := w) (h.block p.block hp h1 h2)
/-- Which codes are known, and their signs, in two arrays. -/
def ArrOk (K : Nat) (M : Nat → Option Int) (w : World) : Prop := ∃ kn sg : Array Value, w.heap[K]? = some (.cells kn 49 (0, 0)) ∧ w.heap[K + 1]? = some (.cells sg 50 (0, 0)) ∧ kn.size = 256 ∧ sg.size = 256 ∧
  (∀ n, n < 256 → kn[n]? = some (.bool (M n).isSome)) ∧ (∀ n, n < 256 → ∃ v : Int, sg[n]? = some (.int .i32 v) ∧ ∀ p, M n = some p → v = p)
theorem ArrOk.heap {K : Nat} {M : Nat → Option Int} {w w' : World} (h : ArrOk K M w) (h1 : w'.heap[K]? = w.heap[K]?) (h2 : w'.heap[K + 1]? = w.heap[K + 1]?) : ArrOk K M w' := by
  obtain ⟨kn, sg, a, b, r⟩ := h
  exact ⟨kn, sg, h1.trans a, h2.trans b, r⟩
theorem ArrOk.lt {K : Nat} {M : Nat → Option Int} {w : World} (h : ArrOk K M w) : K + 1 < w.heap.size := by
  obtain ⟨_, _, _, b, _⟩ := h
  exact (Array.getElem?_eq_some_iff.1 b).1
theorem ArrOk.below {K : Nat} {M : Nat → Option Int} {w w' : World} (h : ArrOk K M w) (hb : Below w.heap.size w w') : ArrOk K M w' := by
  have := h.lt
  exact h.heap (hb.block _ (by omega)) (hb.block _ (by omega))
theorem ArrOk.get {K : Nat} {M : Nat → Option Int} {w : World} (h : ArrOk K M w) {n : Nat} (hn : n < 256) :
    w.cell? ⟨K, n, none⟩ = some (.bool (M n).isSome) ∧ w.frozen? ⟨K, n, none⟩ = false ∧ w.frozen? ⟨K + 1, n, none⟩ = false ∧ ∃ v : Int, w.cell? ⟨K + 1, n, none⟩ = some (.int .i32 v) ∧ ∀ p, M n = some p → v = p := by
  obtain ⟨kn, sg, a, b, _, _, c, d⟩ := h
  obtain ⟨v, h1, h2⟩ := d n hn
  exact ⟨by rw [cell_of_row _ K n _ _ _ a]; exact c n hn, frozen_of_row _ K n _ _ a, frozen_of_row _ (K + 1) n _ _ b, v, by rw [cell_of_row _ (K + 1) n _ _ _ b]; exact h1, h2⟩
theorem ArrOk.set {K : Nat} {M : Nat → Option Int} {w : World} (h : ArrOk K M w) {n : Nat} (_ : n < 256) (p : Int) :
    ArrOk K (fun m => if n = m then some p else M m) ((w.setCell ⟨K, n, none⟩ (.bool true)).setCell ⟨K + 1, n, none⟩ (.int .i32 p)) := by
  obtain ⟨kn, sg, a, b, ka, kb, c, d⟩ := h
  have a1 := heap_setCell_same w K n kn _ (.bool true) a
  have b1 : (w.setCell ⟨K, n, none⟩ (.bool true)).heap[K + 1]? = some (.cells sg 50 (0, 0)) := (heap_set (by omega) _).trans b
  refine ⟨kn.setIfInBounds n (.bool true), sg.setIfInBounds n (.int .i32 p), (heap_set (by omega) _).trans a1, heap_setCell_same _ (K + 1) n sg _ _ b1, by simpa using ka, by simpa using kb, fun m hm => ?_, fun m hm => ?_⟩
  · show (kn.setIfInBounds n (.bool true))[m]? = some (.bool (if n = m then some p else M m).isSome)
    rw [Array.getElem?_setIfInBounds]
    by_cases e : n = m
    · subst e; simp [ka, hm]
    · rw [if_neg e, if_neg e]; exact c m hm
  · rw [Array.getElem?_setIfInBounds]
    by_cases e : n = m
    · subst e; exact ⟨p, by simp [kb, hm], fun q hq => by simpa using hq⟩
    · obtain ⟨v, h1, h2⟩ := d m hm
      exact ⟨v, by rw [if_neg e]; exact h1, fun q hq => h2 q (by simpa [e] using hq)⟩
theorem ArrOk.congr {K : Nat} {M M' : Nat → Option Int} {w : World} (h : ArrOk K M w) (e : ∀ n, n < 256 → M n = M' n) : ArrOk K M' w := by
  obtain ⟨kn, sg, a, b, ka, kb, c, d⟩ := h
  exact ⟨kn, sg, a, b, ka, kb, fun n hn => by rw [← e n hn]; exact c n hn, fun n hn => by rw [← e n hn]; exact d n hn⟩
theorem ArrOk.mk0 (w : World) : ArrOk w.heap.size (fun _ => none) ((w.alloc (.cells Tryd.zeroCells49 49)).alloc (.cells Tryd.zeroCells50 50)) := by
  have h1 := heap_alloc_new w (.cells Tryd.zeroCells49 49)
  have h2 := heap_alloc_new (w.alloc (.cells Tryd.zeroCells49 49)) (.cells Tryd.zeroCells50 50)
  rw [World.size_alloc] at h2
  have e1 : Tryd.zeroCells49 = Array.replicate 256 (.bool false) := by kernel_rfl
  have e2 : Tryd.zeroCells50 = Array.replicate 256 (.int .i32 0) := by kernel_rfl
  refine ⟨_, _, (Below.heap_alloc _ _ _ (by simp)).trans h1, h2, by rw [e1]; simp, by rw [e2]; simp, fun n hn => ?_, fun n hn => ⟨0, ?_, fun p hp => by cases hp⟩⟩
  · rw [e1, Array.getElem?_replicate, if_pos hn]; rfl
  · rw [e2, Array.getElem?_replicate, if_pos hn]
/-- A cell of an integer lies in neither. -/
theorem ArrOk.apart {K : Nat} {M : Nat → Option Int} {w : World} (h : ArrOk K M w) {a : Addr} {z : Int} (hc : w.cell? a = some (.int .i64 z)) : a.block ≠ K ∧ a.block ≠ K + 1 := by
  obtain ⟨kn, sg, h1, h2, k1, k2, c, d⟩ := h
  have hsp : a.spot = none := World.cell?_spot hc
  obtain ⟨b, o, sp⟩ := a
  simp only at hsp
  subst hsp
  constructor
  · rintro rfl
    simp only at h1
    rw [cell_of_row _ _ o _ _ _ h1] at hc
    by_cases ho : o < 256
    · rw [c o ho] at hc; cases hc
    · rw [Array.getElem?_eq_none (by omega)] at hc; cases hc
  · intro e
    simp only at e
    subst e
    rw [cell_of_row _ _ o _ _ _ h2] at hc
    by_cases ho : o < 256
    · obtain ⟨v, hv, _⟩ := d o ho
      rw [hv] at hc; cases hc
    · rw [Array.getElem?_eq_none (by omega)] at hc; cases hc
def SdRel (L : List Pr) (K : Nat) (W1 : World) (i : Value) (wr : World) : Prop := ∃ k : Nat, k ≤ L.length ∧ i = .int .i64 k ∧ ArrOk K (lsOf (L.take k)) wr ∧ Two K W1 wr
def StRel (L : List Pr) (b : ByteArray) (base : Nat) (W1 : World) (v i : Value) (wr : World) : Prop := ∃ (k : Nat) (ps : List Int), k ≤ b.size ∧ i = .int .i64 k ∧ (b.data.toList.take k).map (fun x => lsOf L x.toNat) = ps.map some ∧ wr.ownsRow base 5 1 v (textZ ps).length ((textZ ps).map (Value.int .u8)) ∧ Below W1.heap.size W1 wr
def DdRes (r : List Int ⊕ Nat) : Value := match r with
  | .inl ps => .tuple #[.string (tB ps), .agg #[.int .i64 0, .int .i64 0]]
  | .inr j => .tuple #[.string ⟨#[]⟩, .agg #[.int .i64 2, .int .i64 (j : Int)]]
def DdPost (r : List Int ⊕ Nat) (w0 : World) (e : Ending) (w' : World) : Prop := e = .returned (DdRes r) ∧ Below w0.heap.size w0 w'
theorem ls_mem : ∀ (L : List Pr) (o : Option Int) (n : Nat) (p : Int), L.foldl (fun o x => if x.1 = n then some x.2 else o) o = some p → o = some p ∨ ∃ x ∈ L, x.2 = p
  | [], o, n, p, h => .inl h
  | x :: L, o, n, p, h => by
    rcases ls_mem L _ n p h with h1 | ⟨y, h1, h2⟩
    · have h1 : (if x.1 = n then some x.2 else o) = some p := h1
      by_cases e : x.1 = n
      · rw [if_pos e] at h1; injection h1 with h1; exact .inr ⟨x, List.mem_cons_self .., h1⟩
      · rw [if_neg e] at h1; exact .inl h1
    · exact .inr ⟨y, List.mem_cons_of_mem _ h1, h2⟩
theorem ls_rng {L : List Pr} (h : ∀ x ∈ L, -2147483648 ≤ x.2 ∧ x.2 < 2147483648) {n : Nat} {p : Int} (hp : lsOf L n = some p) : -2147483648 ≤ p ∧ p < 2147483648 := by
  rcases ls_mem L none n p hp with h1 | ⟨x, h1, h2⟩
  · cases h1
  · subst h2; exact h x h1
theorem SDecode_any (A : Option Addr) (c : Nat) (q : Int) (rs : List (Rw × Sl)) (b : ByteArray) (L : List Pr) (hL : prsT rs = L) (hLr : ∀ x ∈ L, -2147483648 ≤ x.2 ∧ x.2 < 2147483648) (hb : b.size ≤ 100000) (hn : rs.length ≤ 35184372089000) (w : World) (h : TbR w w.heap.size A rs) (hT : Tabs w) :
    Calls Tryd.prog 8 #[.agg #[.slice A rs.length c, .int .i64 q], .string b] w (DdPost (dcF L b.data.toList 0) w) := by
  have HP : Hid (∀ r w', dcF L b.data.toList 0 = r → Below w.heap.size w w' → DdPost (dcF L b.data.toList 0) w (.returned (DdRes r)) w') := Lib.hid fun r w' h1 h2 => by rw [h1]; exact ⟨rfl, h2⟩
  generalize DdPost (dcF L b.data.toList 0) w = P at *
  have hpa := fun w1 (hb : Below w.heap.size w w1) => Pairs_any A c rs hn w1 ((h.below hb).more hb.size)
  rw [show (rs.map (·.1)).flatMap prs = L from hL] at hpa
  unfold PaPost at hpa
  have hln := h.total
  rw [← szR_len, show (rs.map (·.1)).flatMap prs = L from hL] at hln
  have hbl : b.data.toList.length = b.size := by simp
  obtain ⟨W2, hW2⟩ : ∃ W2, W2 = (w.alloc (.cells #[.slice A rs.length c, .int .i64 q] 27)).alloc (.cells #[.int .i64 0, .int .i64 0] 33) := ⟨_, rfl⟩
  have hz2 : W2.heap.size = w.heap.size + 2 := by rw [hW2]; simp
  have hB2 : Below w.heap.size w W2 := by rw [hW2]; exact ((Below.refl _ _).alloc (Nat.le_refl _) _).alloc (by simp) _
  have hA0 := ArrOk.mk0 W2
  rw [hz2] at hA0
  have hB4 : Below W2.heap.size W2 ((W2.alloc (.cells Tryd.zeroCells49 49)).alloc (.cells Tryd.zeroCells50 50)) := ((Below.refl _ _).alloc (Nat.le_refl _) _).alloc (by simp) _
  have hf0 : W2.heap[w.heap.size + 1]? = some (.cells #[.int .i64 0, .int .i64 0] 33 (0, 0)) := by
    rw [hW2]; have := heap_alloc_new (w.alloc (.cells #[.slice A rs.length c, .int .i64 q] 27)) (.cells #[.int .i64 0, .int .i64 0] 33); simpa using this
  have HB4 := Lib.hid hB4
  have HB2 := Lib.hid hB2
  have HW2 := Lib.hid hW2
  have HA0 := Lib.hid hA0
  have HF0 := Lib.hid hf0
  have Hz2 := Lib.hid hz2
  have HPA : Hid (∀ w1, Below w.heap.size w w1 → Calls Tryd.prog 21 #[.agg #[.slice A rs.length c]] w1 fun e w' => ∃ A c, e = .returned (.slice A L.length c) ∧ L.length ≤ c ∧ Reads w' w'.heap.size 2 A L.length (L.flatMap prV) ∧ Below w1.heap.size w1 w') := Lib.hid hpa
  clear hB4 hB2 hW2 hA0 hf0 hz2 hpa h hL
  go_enter Tryd.func8, Tryd.ntmps8
  go_wp2_with fail
  rw [← HW2.out]
  refine (HPA.out _ (HB2.out.trans (HB4.out.mono HB2.out.size))).mono ?_
  rintro e w1 ⟨A3, c3, rfl, hc3, hr3, hb3⟩
  have HR3 : Hid (PrsL w1 w1.heap.size A3 L) := Lib.hid hr3
  have HB1 := Lib.hid (HB4.out.trans (hb3.mono HB4.out.size))
  have HA1 := Lib.hid (HA0.out.below hb3)
  have hz1 := HB1.out.size
  rw [Hz2.out] at hz1
  clear hr3 hb3
  go_wp2_with fail
  go_loopw [16] (fun i wr => SdRel L (w.heap.size + 1 + 1) w1 i wr) (fun i _ => L.length - (intOf i).toNat)
  case atStart => exact ⟨0, by omega, rfl, HA1.out, Two.of (Below.refl _ _)⟩
  case round =>
    obtain ⟨k, hk, rfl, harr, htw⟩ := hrel
    have hKz := harr.lt
    have hzr := htw.size
    by_cases hlt : k < L.length
    · obtain ⟨x, hx⟩ : ∃ x, L[k]? = some x := ⟨_, List.getElem?_eq_getElem hlt⟩
      obtain ⟨ad, rfl, hadb, y0, y1, _⟩ := HR3.out.pair hx
      obtain ⟨n1, n2⟩ := HA1.out.apart y0
      rw [block_of_add] at n1 n2
      have z0 := (htw.cell (p := ad.add (k * 2)) (by rw [block_of_add]; exact hadb) (by rw [block_of_add]; exact n1) (by rw [block_of_add]; exact n2)).trans y0
      have z1 := (htw.cell (p := ⟨(ad.add (k * 2)).block, (ad.add (k * 2)).off + 1, none⟩) (by show (ad.add (k * 2)).block < _; rw [block_of_add]; exact hadb) (by show (ad.add (k * 2)).block ≠ _; rw [block_of_add]; exact n1) (by show (ad.add (k * 2)).block ≠ _; rw [block_of_add]; exact n2)).trans y1
      have hsn : L.take (k + 1) = L.take k ++ [x] := by rw [List.take_add_one, hx]; rfl
      have Hsn := Lib.hid hsn
      have hxr := hLr x (List.mem_of_getElem? hx)
      have hl : k < L.length := hlt
      have hB0 : Below wr.heap.size wr (wr.alloc (.cells #[.int .i64 (x.1 : Int), .int .i32 x.2] 43)) := (Below.refl _ _).alloc (Nat.le_refl _) _
      clear hsn n1 n2 y0 y1
      by_cases hc : x.1 < 256
      · have hc' : (x.1 : Int) < 256 := by omega
        go_wp2_with fail
        have q0 : (wr.alloc (.cells #[.int .i64 (x.1 : Int), .int .i32 x.2] 43)).drew.cell? ⟨wr.heap.size, 0, none⟩ = some (.int .i64 (x.1 : Int)) := by rw [World.cell?_drew, cell_of_row _ wr.heap.size 0 _ _ _ (heap_alloc_new wr _)]; rfl
        have q1 : (wr.alloc (.cells #[.int .i64 (x.1 : Int), .int .i32 x.2] 43)).drew.cell? ⟨wr.heap.size, 1, none⟩ = some (.int .i32 x.2) := by rw [World.cell?_drew, cell_of_row _ wr.heap.size 1 _ _ _ (heap_alloc_new wr _)]; rfl
        have ha0 : ArrOk (w.heap.size + 1 + 1) (lsOf (L.take k)) (wr.alloc (.cells #[.int .i64 (x.1 : Int), .int .i32 x.2] 43)).drew := harr.below hB0.drew
        have Ht0 := Lib.hid (htw.trans (Two.of hB0.drew))
        refine wp_region_lin (fun W => W.cell? ⟨wr.heap.size, 0, none⟩ = some (.int .i64 (x.1 : Int)) ∧ W.cell? ⟨wr.heap.size, 1, none⟩ = some (.int .i32 x.2)) [(0, true), (1, true), (2, true), (3, true), (4, true), (5, true), (6, true), (7, false), (8, true), (9, false)] (by kernel_rfl) (by kernel_rfl) (by kernel_rfl) (Nat.le_of_ble_eq_true rfl) (fun _ _ d _ _ h => by cases d <;> exact h) ⟨q0, q1⟩ ?_
        generalize (wr.alloc (.cells #[.int .i64 (x.1 : Int), .int .i32 x.2] 43)).drew = W0 at *
        obtain ⟨e1, e2, e3, v, e4, _⟩ := ha0.get hc
        have HAR := Lib.hid (ha0.set hc x.2)
        clear ha0
        have m1 : (W0.setCell ⟨w.heap.size + 1 + 1, x.1, none⟩ (.bool true)).cell? ⟨wr.heap.size, 0, none⟩ = some (.int .i64 (x.1 : Int)) := (cell_set (by show wr.heap.size ≠ _; omega) _).trans q0
        have m2 : (W0.setCell ⟨w.heap.size + 1 + 1, x.1, none⟩ (.bool true)).cell? ⟨wr.heap.size, 1, none⟩ = some (.int .i32 x.2) := (cell_set (by show wr.heap.size ≠ _; omega) _).trans q1
        refine' lin_pure rfl (by rfl) _ (fun W hSw => _) _
        rotate_left
        · obtain ⟨s1, s2⟩ := hSw
          go_simp
          try with_reducible rfl
        try simp only [Act.put, List.setIfInBounds_toArray, List.set_cons_zero, List.set_cons_succ]
        refine' lin_pure rfl (by rfl) _ (fun W hSw => _) _
        rotate_left
        · obtain ⟨s1, s2⟩ := hSw
          go_simp
          try with_reducible rfl
        try simp only [Act.put, List.setIfInBounds_toArray, List.set_cons_zero, List.set_cons_succ]
        refine' lin_pure rfl (by rfl) _ (fun W hSw => _) _
        rotate_left
        · obtain ⟨s1, s2⟩ := hSw
          go_simp
          try with_reducible rfl
        try simp only [Act.put, List.setIfInBounds_toArray, List.set_cons_zero, List.set_cons_succ]
        refine' lin_pure rfl (by rfl) _ (fun W hSw => _) _
        rotate_left
        · obtain ⟨s1, s2⟩ := hSw
          go_simp
          try with_reducible rfl
        try simp only [Act.put, List.setIfInBounds_toArray, List.set_cons_zero, List.set_cons_succ]
        refine' lin_pure rfl (by rfl) _ (fun W hSw => _) _
        rotate_left
        · obtain ⟨s1, s2⟩ := hSw
          go_simp
          try with_reducible rfl
        try simp only [Act.put, List.setIfInBounds_toArray, List.set_cons_zero, List.set_cons_succ]
        refine' lin_pure rfl (by rfl) _ (fun W hSw => _) _
        rotate_left
        · obtain ⟨s1, s2⟩ := hSw
          go_simp
          try with_reducible rfl
        try simp only [Act.put, List.setIfInBounds_toArray, List.set_cons_zero, List.set_cons_succ]
        refine lin_pure rfl (by rfl) (.pointer (some ⟨w.heap.size + 1 + 1, x.1, none⟩)) (fun W hSw => by go_simp) ?_
        try simp only [Act.put, List.setIfInBounds_toArray, List.set_cons_zero, List.set_cons_succ]
        refine lin_eff rfl (by rfl) (fun K hK => ?_)
        go_simp
        go_wp2_with fail
        have e5 : (W0.setCell ⟨w.heap.size + 1 + 1, x.1, none⟩ (.bool true)).cell? ⟨w.heap.size + 1 + 1 + 1, x.1, none⟩ = some (.int .i32 v) := (cell_set (by show w.heap.size + 1 + 1 + 1 ≠ _; omega) _).trans e4
        have e6 : (W0.setCell ⟨w.heap.size + 1 + 1, x.1, none⟩ (.bool true)).frozen? ⟨w.heap.size + 1 + 1 + 1, x.1, none⟩ = false := by rw [World.frozen?_of_block (w := W0) (heap_set (by show w.heap.size + 1 + 1 + 1 ≠ _; omega) _)]; exact e3
        have hT1 := Two.set (K := w.heap.size + 1 + 1) (j := x.1) (w := W0) (p := w.heap.size + 1 + 1) (.inl rfl) (.bool true)
        have HTt := Lib.hid (Ht0.out.trans (hT1.trans (Two.set (K := w.heap.size + 1 + 1) (j := x.1) (p := w.heap.size + 1 + 1 + 1) (.inr rfl) (.int .i32 x.2))))
        refine hK.out _ _ ⟨m1, m2⟩ ?_
        clear hK K hT1
        generalize (W0.setCell ⟨w.heap.size + 1 + 1, x.1, none⟩ (.bool true)) = Wm at *
        try simp only [Act.put, List.setIfInBounds_toArray, List.set_cons_zero, List.set_cons_succ]
        refine lin_pure rfl (by rfl) (.pointer (some ⟨w.heap.size + 1 + 1 + 1, x.1, none⟩)) (fun W hSw => by go_simp) ?_
        try simp only [Act.put, List.setIfInBounds_toArray, List.set_cons_zero, List.set_cons_succ]
        refine lin_eff rfl (by rfl) (fun K hK => ?_)
        go_simp
        go_wp2_with fail
        have m3 : (Wm.setCell ⟨w.heap.size + 1 + 1 + 1, x.1, none⟩ (.int .i32 x.2)).cell? ⟨wr.heap.size, 0, none⟩ = some (.int .i64 (x.1 : Int)) := (cell_set (by show wr.heap.size ≠ _; omega) _).trans m1
        have m4 : (Wm.setCell ⟨w.heap.size + 1 + 1 + 1, x.1, none⟩ (.int .i32 x.2)).cell? ⟨wr.heap.size, 1, none⟩ = some (.int .i32 x.2) := (cell_set (by show wr.heap.size ≠ _; omega) _).trans m2
        refine hK.out _ _ ⟨m3, m4⟩ ?_
        clear hK K
        try simp only [Act.put, List.setIfInBounds_toArray, List.set_cons_zero, List.set_cons_succ]
        refine lin_nil ?_
        go_wp2_with fail
        go_roundw
        case rel => exact ⟨k + 1, by omega, by simp, HAR.out.congr (fun n _ => by rw [Hsn.out, lsOf_snoc]), HTt.out⟩
        case measure => simp [intOf]; omega
      · have hc' : ¬ ((x.1 : Int) < 256) := by omega
        go_wp2_with fail
        go_roundw
        case rel => exact ⟨k + 1, by omega, by simp, (harr.below hB0).congr (fun n hn => by rw [Hsn.out, lsOf_snoc, if_neg (by omega)]), htw.trans (Two.of hB0)⟩
        case measure => simp [intOf]; omega
    · obtain rfl : k = L.length := by omega
      rw [List.take_length] at harr
      have hkk : ¬ ((L.length : Int) < L.length) := by omega
      have HBr : Hid (Below w.heap.size w wr) := Lib.hid ((HB2.out.trans (HB1.out.mono HB2.out.size)).trans (htw.below (by omega) (by have := HB1.out.size; have := HB2.out.size; omega)))
      have hfa : wr.heap[w.heap.size + 1]? = some (.cells #[.int .i64 0, .int .i64 0] 33 (0, 0)) := by
        rw [htw.block _ (by have := HB1.out.size; omega) (by omega) (by omega), HB1.out.block _ (by rw [Hz2.out]; omega)]; exact HF0.out
      have hTr : Tabs wr := Tabs_below hT HBr.out (Nat.le_refl _)
      have HFA := Lib.hid hfa
      have HARR := Lib.hid harr
      have hrz : w.heap.size + 3 < wr.heap.size := by have := harr.lt; omega
      obtain ⟨wo, rfl⟩ : ∃ wo : World, wo = wr := ⟨_, rfl⟩
      clear htw hfa harr
      go_wp2_with fail
      go_loopw [10, 11] (fun v i wr => StRel L b wo.heap.size wo v i wr) (fun _ i _ => b.size - (intOf i).toNat)
      case atStart => exact ⟨0, [], by omega, rfl, rfl, ⟨rfl, .inl ⟨rfl, rfl⟩⟩, Below.refl _ _⟩
      case round =>
        obtain ⟨k, ps, hk, rfl, hps, hown, hbr⟩ := hrel
        have hzw := hbr.size
        by_cases hlt : k < b.size
        · have hx : b.data.toList[k]? = some b[k] := by rw [List.getElem?_eq_getElem (by omega)]; rfl
          have htk : b.data.toList.take (k + 1) = b.data.toList.take k ++ [b[k]] := by rw [List.take_add_one, hx]; rfl
          have hx256 : b[k].toNat < 256 := b[k].toNat_lt
          have hx256' : (b[k].toNat : Int) < 256 := by omega
          obtain ⟨e1, _, _, v, e4, e5⟩ := (HARR.out.below hbr).get hx256
          cases hls : lsOf L b[k].toNat with
          | none =>
            rw [hls] at e1
            have e1' : wr.cell? ⟨w.heap.size + 1 + 1, b[k].toNat, none⟩ = some (.bool false) := e1
            have Hr := Lib.hid (dc_bad L k b.data.toList ps 0 b[k] hps hx hls)
            have hfr := heap_below HFA.out hbr
            have g0 : wr.cell? ⟨w.heap.size + 1, 0, none⟩ = some (.int .i64 0) := by rw [cell_of_row _ _ 0 _ _ _ hfr]; rfl
            have g1 : wr.cell? ⟨w.heap.size + 1, 1, none⟩ = some (.int .i64 0) := by rw [cell_of_row _ _ 1 _ _ _ hfr]; rfl
            have g2 : wr.frozen? ⟨w.heap.size + 1, 0, none⟩ = false := frozen_of_row _ _ 0 _ _ hfr
            have g3 : wr.frozen? ⟨w.heap.size + 1, 1, none⟩ = false := frozen_of_row _ _ 1 _ _ hfr
            clear e1 e4 e5 hls hps hx htk hfr hown
            go_wp2_with fail
            refine bodyPost_ret (v := .tuple #[.string ⟨#[]⟩, .agg #[.int .i64 2, .int .i64 k]]) (by simp [results, Tryd.results8, go_sem, g0, g1]) rfl ?_
            exact HP.out (.inr k) _ (Hr.out.trans (by rw [Nat.zero_add])) (((HBr.out.trans (hbr.mono (by omega))).setCell (Nat.le_succ _) _).setCell (Nat.le_succ _) _)
          | some p =>
            rw [hls] at e1
            have e1' : wr.cell? ⟨w.heap.size + 1 + 1, b[k].toNat, none⟩ = some (.bool true) := e1
            have hv := e5 p hls
            subst hv
            have hpr := ls_rng hLr hls
            have hps2 := Lib.hid (show (b.data.toList.take (k + 1)).map (fun x => lsOf L x.toNat) = (ps ++ [v]).map some by rw [htk, List.map_append, hps, List.map_append, List.map_cons, List.map_nil, hls]; rfl)
            have hpl : ps.length = k := by have := congrArg List.length hps; simp at this; omega
            have hcap : (textZ ps).length + 4 ≤ 140737488355328 := by
              have h1 := textZ_len ps
              have h2 := (len_textL ps).2
              omega
            have hnext : Hid ((textZ (ps ++ [v])).map (Value.int .u8) = (textZ ps).map (Value.int .u8) ++ Lib.runeCells v) := by
              rw [textZ_snoc, List.map_append]; rfl
            have hnext2 : Hid ((textZ (ps ++ [v])).length = (textZ ps).length + (Lib.runeCells v).length) := by
              have := congrArg List.length hnext.out
              simp only [List.length_map, List.length_append] at this
              exact this
            clear e1 e5 hls hps hx htk hpl
            go_wp2_with (go_at_call 22; refine (Tryd.utf8_AppendRune_plain _ _ _ _ v (by omega) (by omega) _ hown hcap hzw).mono ?_; rintro e w2 ⟨v', rfl, hown2, o, hg2⟩)
            have hb2 : Below wo.heap.size wo w2 := below_grownOwn (hbr.alloc hzw o) (hown.alloc o) hg2 (by simp; omega) (Nat.le_refl _)
            rw [← hnext.out, ← hnext2.out] at hown2
            go_roundw
            case rel => exact ⟨k + 1, ps ++ [v], by omega, by simp, hps2.out, hown2, hb2⟩
            case measure => simp [intOf]; omega
        · obtain rfl : k = b.size := by omega
          have hkk2 : ¬ ((b.size : Int) < b.size) := by omega
          rw [List.take_of_length_le (by omega)] at hps
          have Hr := Lib.hid (dc_all L b.data.toList ps 0 hps)
          have hfr := heap_below HFA.out hbr
          have g0 : wr.cell? ⟨w.heap.size + 1, 0, none⟩ = some (.int .i64 0) := by rw [cell_of_row _ _ 0 _ _ _ hfr]; rfl
          have g1 : wr.cell? ⟨w.heap.size + 1, 1, none⟩ = some (.int .i64 0) := by rw [cell_of_row _ _ 1 _ _ _ hfr]; rfl
          have g2 : wr.frozen? ⟨w.heap.size + 1, 0, none⟩ = false := frozen_of_row _ _ 0 _ _ hfr
          have g3 : wr.frozen? ⟨w.heap.size + 1, 1, none⟩ = false := frozen_of_row _ _ 1 _ _ hfr
          have hconv := conv_own (P := Tryd.prog) 51 9 5 Tryd.underlying51 Tryd.underlying5 Tryd.underlying9 wr hown
          rw [strOfNums_text] at hconv
          clear hps hfr
          go_wp2_with fail
          refine bodyPost_ret (v := .tuple #[.string ⟨(textL ps).toArray⟩, .agg #[.int .i64 0, .int .i64 0]]) (by simp [results, Tryd.results8, go_sem, g0, g1]) rfl ?_
          exact HP.out (.inl ps) _ Hr.out (((HBr.out.trans (hbr.mono (by omega))).setCell (Nat.le_succ _) _).setCell (Nat.le_succ _) _)
end Go.Proofs.YtpnjandlpbjddabDoor
