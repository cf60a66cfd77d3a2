/- Contract: single.Set.Encode: a text's bytes by a table's pairs; no condition but the lengths. -/
import Derived.Test.YtpnjandlpbjddabDoorKD
import Derived.Maps.OwnOps
import Derived.Maps.OwnSet
import Derived.Maps.Views
set_option maxRecDepth 100000
set_option maxHeartbeats 4000000
namespace Go.Proofs.YtpnjandlpbjddabDoor
open Go Go.RowKit Go.Maps

theorem law32 : Keyed Tryd.prog 21 := int_keyed Tryd.underlying21
theorem zeroI (w : World) : (zeroValue 3).run Tryd.prog w = .ok (.int .i64 0) w := by kernel_rfl
theorem wf_i32 {p : Int} (h : -2147483648 ≤ p ∧ p < 2147483648) : (Lit.int .i32 p).wf = true := by
  simp [Lit.wf, IntKind.min, IntKind.max, IntKind.bits, IntKind.signed]; omega
theorem wf_i64 {c : Nat} (h : c < 256) : (Lit.int .i64 (c : Int)).wf = true := by
  simp [Lit.wf, IntKind.min, IntKind.max, IntKind.bits, IntKind.signed]; omega
/-- Block b is a map from signs to codes: what it tells of each sign. -/
def MpI (w : World) (b n : Nat) (M : Int → Option Nat) : Prop := ∃ D : DataW Unit, w.ownsMap Tryd.prog 21 (plainElem Tryd.prog 3) b n D ∧ (∀ p : Int, (M p).isSome = Maps.has D (.int .i32 p)) ∧ ∀ (p : Int) (c : Nat), M p = some c → ∀ z, D.atKey (.int .i32 p) z = .lit (.int .i64 (c : Int))
theorem MpI.made (w : World) : MpI (w.alloc (.map #[] 0)) w.heap.size 0 (fun _ => none) := ⟨.map [], World.ownsMap_made _ _ _ _, fun _ => rfl, fun _ _ h => by cases h⟩
theorem MpI.below {w w' : World} {b n : Nat} {M : Int → Option Nat} (h : MpI w b n M) (hb : Below w.heap.size w w') : MpI w' b n M := by
  obtain ⟨D, h1, h2⟩ := h
  exact ⟨D, h1.kept (row := none) ⟨hb.os, hb.tape, hb.output, hb.size, fun k hk _ => hb.block k hk⟩ (by simp), h2⟩
theorem MpI.lt {w : World} {b n : Nat} {M : Int → Option Nat} (h : MpI w b n M) : b < w.heap.size := by
  obtain ⟨D, h1, _⟩ := h
  exact h1.lt
theorem MpI.mono {w : World} {b n n' : Nat} {M : Int → Option Nat} (h : MpI w b n M) (hn : n ≤ n') : MpI w b n' M := by
  obtain ⟨D, h1, h2⟩ := h
  exact ⟨D, h1.mono hn, h2⟩
theorem MpI.congr {w : World} {b n : Nat} {M M' : Int → Option Nat} (h : MpI w b n M) (e : ∀ p, M p = M' p) : MpI w b n M' := by rw [show M = M' from funext e] at h; exact h
/-- No cell lies in it. -/
theorem MpI.apart {w : World} {b n : Nat} {M : Int → Option Nat} (h : MpI w b n M) {a : Addr} {v : Value} (hc : w.cell? a = some v) : a.block ≠ b := by
  rintro rfl
  obtain ⟨D, ⟨es, clock, h1, _⟩, _⟩ := h
  unfold World.cell? at hc
  rw [h1] at hc
  cases hc
section
variable {ops : Array Oper} {rest : List Oper} {o : Oper} {a : Act} {Q : Exit → Act → World → Prop} {w : World} {b n : Nat} {M : Int → Option Nat}
theorem mp_look (hg : o.guard = none) (m x : Operand) (hop : o.op = Op.lookup 54 m x true) (h : MpI w b n M) (hm : a.eval m = .map (some b)) (p : Int) (hx : a.eval x = .int .i32 p) (hp : -2147483648 ≤ p ∧ p < 2147483648)
    (hK : ∀ c : Int, (∀ k, M p = some k → c = k) → wpList Tryd.prog ops Q rest (a.put o.dst (.tuple #[.int .i64 c, .bool (M p).isSome])) w) :
    wpList Tryd.prog ops Q (o :: rest) a w := by
  obtain ⟨D, h1, h2, h3⟩ := h
  refine wpList_lookup_own_ok_int _ hg m x 54 hop 21 3 .i64 law32 Tryd.underlying54 Tryd.underlying3 (zeroI _) b n D hm h1 (.int .i32 p) (.int .i32 p) hx (keyOf_int_mk Tryd.underlying21 (wf_i32 hp)) ?_
  intro c hat _
  rw [← h2]
  refine hK c fun k hk => ?_
  rw [h3 p k hk] at hat
  simpa using hat.symm
theorem mp_yes (hg : o.guard = none) (m x : Operand) (hop : o.op = Op.lookup 54 m x true) (h : MpI w b n M) (hm : a.eval m = .map (some b)) (p : Int) (hx : a.eval x = .int .i32 p) (hp : -2147483648 ≤ p ∧ p < 2147483648) {k : Nat} (hk : M p = some k)
    (hK : wpList Tryd.prog ops Q rest (a.put o.dst (.tuple #[.int .i64 (k : Int), .bool true])) w) :
    wpList Tryd.prog ops Q (o :: rest) a w :=
  mp_look hg m x hop h hm p hx hp fun c hc => by rw [hc k hk, hk]; exact hK
theorem mp_no (hg : o.guard = none) (m x : Operand) (hop : o.op = Op.lookup 54 m x true) (h : MpI w b n M) (hm : a.eval m = .map (some b)) (p : Int) (hx : a.eval x = .int .i32 p) (hp : -2147483648 ≤ p ∧ p < 2147483648) (hk : M p = none)
    (hK : ∀ c : Int, wpList Tryd.prog ops Q rest (a.put o.dst (.tuple #[.int .i64 c, .bool false])) w) :
    wpList Tryd.prog ops Q (o :: rest) a w :=
  mp_look hg m x hop h hm p hx hp fun c _ => by rw [hk]; exact hK c
theorem mp_put (hg : o.guard = none) (m x v : Operand) (hop : o.op = Op.mapUpdate 54 m x v) (h : MpI w b n M) (hm : a.eval m = .map (some b)) (p : Int) (hx : a.eval x = .int .i32 p) (hp : -2147483648 ≤ p ∧ p < 2147483648) (c : Nat) (hv : a.eval v = .int .i64 (c : Int)) (hc : c < 256) (hn : n ≤ 10000000)
    (hK : ∀ w', MpI w' b (n + 1) (fun q => if q = p then some c else M q) → w.grownBy w' (some b) → wpList Tryd.prog ops Q rest (a.put o.dst undef) w') :
    wpList Tryd.prog ops Q (o :: rest) a w := by
  obtain ⟨D, h1, h2, h3⟩ := h
  refine wpList_mapUpdate_own _ hg m x v 54 hop 21 3 law32 Tryd.underlying54 _ b n D hm h1 (by unfold maxLen; omega) (.int .i32 p) (.int .i64 (c : Int)) (.int .i32 p) hx hv (keyOf_int_mk Tryd.underlying21 (wf_i32 hp)) (.lit (.int .i64 (c : Int))) [] (plainElem_int Tryd.underlying3 (wf_i64 hc)) ?_
  intro w' h4 h5
  have hD : IsMap D := by obtain ⟨es, cl, _, _, _, rfl⟩ := h1; exact ⟨_, rfl⟩
  refine hK w' ⟨_, h4, fun q => ?_, fun q k hk z => ?_⟩ h5
  · show (if q = p then some c else M q).isSome = _
    by_cases e : q = p
    · subst e; rw [if_pos rfl, has_put_same hD (show WideAt.IsKeyLit (.int .i32 q) from trivial)]; rfl
    · rw [if_neg e, h2, has_put_other (by simpa using e)]
  · have hk : (if q = p then some c else M q) = some k := hk
    by_cases e : q = p
    · subst e; rw [if_pos rfl] at hk; injection hk with hk; subst hk; exact atKey_put_same hD (show WideAt.IsKeyLit (.int .i32 q) from trivial) _ _
    · rw [if_neg e] at hk; rw [atKey_put_other (by simpa using e)]; exact h3 q k hk z
end
def EcRes (r : List UInt8 ⊕ Nat) : Value := match r with
  | .inl bs => .tuple #[.string ⟨bs.toArray⟩, .agg #[.int .i64 0, .int .i64 0]]
  | .inr j => .tuple #[.string ⟨#[]⟩, .agg #[.int .i64 6, .int .i64 (j : Int)]]
def EcPost (r : List UInt8 ⊕ Nat) (w0 : World) (e : Ending) (w' : World) : Prop := e = .returned (EcRes r) ∧ Below w0.heap.size w0 w'
theorem SEncode_bad (A : Option Addr) (c : Nat) (q : Int) (m : Nat) (s : ByteArray) (n : Nat) (hg : BadAt s n) (hs : s.size ≤ 100000) (w : World) (hT : Tabs w) :
    Calls Tryd.prog 10 #[.agg #[.slice A m c, .int .i64 q], .string s] w fun e w' => e = .returned (.tuple #[.string ⟨#[]⟩, .agg #[.int .i64 2, .int .i64 n]]) ∧ Below w.heap.size w w' := by
  obtain ⟨W2, hW2⟩ : ∃ W2, W2 = (w.alloc (.cells #[.slice A m c, .int .i64 q] 27)).alloc (.cells #[.int .i64 0, .int .i64 0] 33) := ⟨_, rfl⟩
  have hz2 : W2.heap.size = w.heap.size + 1 + 1 := by rw [hW2]; simp
  have hB2 : Below w.heap.size w W2 := by rw [hW2]; exact ((Below.refl _ _).alloc (Nat.le_refl _) _).alloc (by simp) _
  have hf0 : W2.heap[w.heap.size + 1]? = some (.cells #[.int .i64 0, .int .i64 0] 33 (0, 0)) := by
    rw [hW2]; have := heap_alloc_new (w.alloc (.cells #[.slice A m c, .int .i64 q] 27)) (.cells #[.int .i64 0, .int .i64 0] 33); simpa using this
  have hT2 := Tabs_below hT hB2 (Nat.le_refl _)
  have HB2 := Lib.hid hB2
  have HF0 := Lib.hid hf0
  have Hz2 := Lib.hid hz2
  have HW2 := Lib.hid hW2
  clear hB2 hf0 hz2 hW2
  go_enter Tryd.func10, Tryd.ntmps10
  go_wp2_with fail
  rw [← HW2.out]
  refine (Check_bad s n hg (by omega) W2 hT2).mono ?_
  rintro e w1 ⟨rfl, hb1⟩
  have hz1 := hb1.size
  rw [Hz2.out] at hz1
  have HF1 := Lib.hid (heap_below HF0.out hb1)
  have HB1 := Lib.hid (HB2.out.trans (hb1.mono HB2.out.size))
  clear hb1
  go_wp2_with fail
  refine (Bad_any 2 n _).mono ?_
  rintro e w2 ⟨rfl, hb2⟩
  obtain ⟨b0, f0, hlt⟩ := bx hb2
  have c0 := b0 0
  have c1 := b0 1
  have HB2' := Lib.hid (HB1.out.trans ((below_a1 hb2).mono HB1.out.size))
  have hfr := heap_below HF1.out (below_a1 hb2)
  have g0 : w2.cell? ⟨w.heap.size + 1, 0, none⟩ = some (.int .i64 0) := by rw [cell_of_row _ _ 0 _ _ _ hfr]; rfl
  have g1 : w2.cell? ⟨w.heap.size + 1, 1, none⟩ = some (.int .i64 0) := by rw [cell_of_row _ _ 1 _ _ _ hfr]; rfl
  have g2 : w2.frozen? ⟨w.heap.size + 1, 0, none⟩ = false := frozen_of_row _ _ 0 _ _ hfr
  have g3 : w2.frozen? ⟨w.heap.size + 1, 1, none⟩ = false := frozen_of_row _ _ 1 _ _ hfr
  clear b0 f0 hb2 hfr
  go_wp2_with fail
  go_region
  go_wp2_with fail
  refine bodyPost_ret (v := .tuple #[.string ⟨#[]⟩, .agg #[.int .i64 2, .int .i64 n]]) (by simp [results, Tryd.results10, go_sem, g0, g1]) rfl ⟨rfl, ?_⟩
  exact ((HB2'.out.setCell (Nat.le_succ _) _).setCell (Nat.le_succ _) _).drew
/-- All but block K stands as it was. -/
structure One (K : Nat) (w w' : World) : Prop where
  os : w'.os = w.os
  tape : w'.tape = w.tape
  output : w'.output = w.output
  size : w.heap.size ≤ w'.heap.size
  block : ∀ k, k < w.heap.size → k ≠ K → w'.heap[k]? = w.heap[k]?
theorem One.of {K : Nat} {w w' : World} (h : Below w.heap.size w w') : One K w w' := ⟨h.os, h.tape, h.output, h.size, fun k hk _ => h.block k hk⟩
theorem One.grown {K : Nat} {w w' : World} (h : w.grownBy w' (some K)) : One K w w' := ⟨h.os, h.tape, h.output, h.size, fun k hk h1 => h.block k hk (by simpa using h1)⟩
theorem One.trans {K : Nat} {a b c : World} (h : One K a b) (g : One K b c) : One K a c :=
  ⟨g.os.trans h.os, g.tape.trans h.tape, g.output.trans h.output, Nat.le_trans h.size g.size, fun k hk h1 => (g.block k (Nat.lt_of_lt_of_le hk h.size) h1).trans (h.block k hk h1)⟩
theorem One.below {K B : Nat} {w w' : World} (h : One K w w') (hB : B ≤ K) (hs : B ≤ w.heap.size) : Below B w w' := ⟨h.os, h.tape, h.output, h.size, fun k hk => h.block k (by omega) (by omega)⟩
theorem One.cell {K : Nat} {w w' : World} (h : One K w w') {p : Addr} (hp : p.block < w.heap.size) (h1 : p.block ≠ K) : w'.cell? p = w.cell? p := World.cell?_of_block (w := w) (h.block p.block hp h1)
theorem cd_keep {l : List Pr} {x : Pr} (h : (cdOf l x.2).isSome = true ∨ ¬ x.1 < 256) (p : Int) : cdOf l p = cdOf (l ++ [x]) p := by
  rw [cdOf_snoc]
  by_cases e : x.2 = p ∧ x.1 < 256
  · obtain ⟨rfl, h2⟩ := e
    rcases h with h | h
    · obtain ⟨c, hc⟩ := Option.isSome_iff_exists.1 h
      rw [hc]; rfl
    · exact absurd h2 h
  · rw [if_neg e, Option.or_none]
theorem cd_new {l : List Pr} {x : Pr} (h : (cdOf l x.2).isSome = false) (h2 : x.1 < 256) (p : Int) : (if p = x.2 then some x.1 else cdOf l p) = cdOf (l ++ [x]) p := by
  rw [cdOf_snoc]
  by_cases e : p = x.2
  · subst e
    rw [if_pos rfl, if_pos ⟨rfl, h2⟩]
    cases hq : cdOf l x.2 with
    | none => rfl
    | some c => rw [hq] at h; cases h
  · rw [if_neg e, if_neg (fun h3 => e h3.1.symm), Option.or_none]
def SmRel (L : List Pr) (K : Nat) (W1 : World) (i : Value) (wr : World) : Prop := ∃ k : Nat, k ≤ L.length ∧ i = .int .i64 k ∧ MpI wr K k (cdOf (L.take k)) ∧ One K W1 wr
def SeRel (L : List Pr) (s : ByteArray) (ps : List Int) (It base : Nat) (W1 : World) (v : Value) (wr : World) : Prop := ∃ (k i : Nat) (cs : List Nat), Run ps k i ∧ wr.heap[It]? = some (.stringIter s i) ∧ (ps.take k).map (cdOf L) = cs.map some ∧ wr.ownsRow base 5 1 v k ((cs.map fun c : Nat => (c : Int)).map (Value.int .u8)) ∧ Below base W1 wr
theorem nums_codes (cs : List Nat) : strOfNums (cs.map fun c : Nat => (c : Int)) = ⟨(cs.map Nat.toUInt8).toArray⟩ := by
  unfold strOfNums
  rw [List.map_map]
  rfl
theorem SEncode_good (A : Option Addr) (c : Nat) (q : Int) (rs : List (Rw × Sl)) (s : ByteArray) (ps : List Int) (hg : Good s ps) (L : List Pr) (hL : prsT rs = L) (hLr : ∀ x ∈ L, -2147483648 ≤ x.2 ∧ x.2 < 2147483648) (hs : s.size ≤ 100000) (hn : rs.length ≤ 35184372089000) (w : World) (h : TbR w w.heap.size A rs) (hT : Tabs w) :
    Calls Tryd.prog 10 #[.agg #[.slice A rs.length c, .int .i64 q], .string s] w (EcPost (ecF (cdOf L) ps 0) w) := by
  have HP : Hid (∀ r w', ecF (cdOf L) ps 0 = r → Below w.heap.size w w' → EcPost (ecF (cdOf L) ps 0) w (.returned (EcRes r)) w') := Lib.hid fun r w' h1 h2 => by rw [h1]; exact ⟨rfl, h2⟩
  generalize EcPost (ecF (cdOf L) ps 0) w = P at *
  have hpa := fun w1 (hb : Below w.heap.size w w1) => Pairs_any A c rs hn w1 ((h.below hb).more hb.size)
  rw [show (rs.map (·.1)).flatMap prs = L from hL] at hpa
  unfold PaPost at hpa
  have hln := h.total
  rw [← szR_len, show (rs.map (·.1)).flatMap prs = L from hL] at hln
  have hlen := hg.len
  obtain ⟨i0, hi, iz0, iz1, iz2⟩ := info_parts byte_info
  have hmm := @run_makeMap Tryd.prog
  obtain ⟨W2, hW2⟩ : ∃ W2, W2 = (w.alloc (.cells #[.slice A rs.length c, .int .i64 q] 27)).alloc (.cells #[.int .i64 0, .int .i64 0] 33) := ⟨_, rfl⟩
  have hz2 : W2.heap.size = w.heap.size + 1 + 1 := by rw [hW2]; simp
  have hB2 : Below w.heap.size w W2 := by rw [hW2]; exact ((Below.refl _ _).alloc (Nat.le_refl _) _).alloc (by simp) _
  have hf0 : W2.heap[w.heap.size + 1]? = some (.cells #[.int .i64 0, .int .i64 0] 33 (0, 0)) := by
    rw [hW2]; have := heap_alloc_new (w.alloc (.cells #[.slice A rs.length c, .int .i64 q] 27)) (.cells #[.int .i64 0, .int .i64 0] 33); simpa using this
  have hs0 : W2.heap[w.heap.size]? = some (.cells #[.slice A rs.length c, .int .i64 q] 27 (0, 0)) := by
    rw [hW2, Below.heap_alloc _ _ _ (by simp)]; exact heap_alloc_new w _
  have hT2 := Tabs_below hT hB2 (Nat.le_refl _)
  have HB2 := Lib.hid hB2
  have HF0 := Lib.hid hf0
  have HS0 := Lib.hid hs0
  have Hz2 := Lib.hid hz2
  have HW2 := Lib.hid hW2
  have HPA : Hid (∀ w1, Below w.heap.size w w1 → Calls Tryd.prog 21 #[.agg #[.slice A rs.length c]] w1 fun e w' => ∃ A c, e = .returned (.slice A L.length c) ∧ L.length ≤ c ∧ Reads w' w'.heap.size 2 A L.length (L.flatMap prV) ∧ Below w1.heap.size w1 w') := Lib.hid hpa
  clear hB2 hf0 hs0 hz2 hW2 hpa h hL
  go_enter Tryd.func10, Tryd.ntmps10
  go_wp2_with fail
  rw [← HW2.out]
  refine (Check_good s ps hg (by omega) W2 hT2).mono ?_
  rintro e w1 ⟨rfl, hb1⟩
  have hz1 := hb1.size
  rw [Hz2.out] at hz1
  have HF1 := Lib.hid (heap_below HF0.out hb1)
  have HS1 := Lib.hid (heap_below HS0.out hb1)
  have HB1 := Lib.hid (HB2.out.trans (hb1.mono HB2.out.size))
  have hT1 := Tabs_below hT2 hb1 (Nat.le_refl _)
  clear hb1 hT2
  go_wp2_with fail
  refine (Bad_any 0 0 _).mono ?_
  rintro e w2 ⟨rfl, hb2⟩
  have HBx := Lib.hid (HB1.out.trans ((below_a1 hb2).mono HB1.out.size))
  have HF2 := Lib.hid (heap_below HF1.out (below_a1 hb2))
  have hs2 := heap_below HS1.out (below_a1 hb2)
  have hT2 := Tabs_below hT1 (below_a1 hb2) (Nat.le_refl _)
  have hz2 := (below_a1 hb2).size
  have s0 : w2.cell? ⟨w.heap.size, 0, none⟩ = some (.slice A rs.length c) := by rw [cell_of_row _ _ 0 _ _ _ hs2]; rfl
  have s1 : (w2.alloc (.map #[] 0)).cell? ⟨w.heap.size, 0, none⟩ = some (.slice A rs.length c) := (World.cell?_alloc_lt _ _ _ (by show w.heap.size < _; omega)).trans s0
  clear hb2 hT1 hs2 s0
  go_wp2_with (go_at_call 21; refine (HPA.out _ (HBx.out.trans (((Below.refl _ w2).alloc (Nat.le_refl _) (.map #[] 0)).mono HBx.out.size))).mono ?_; rintro e w3 ⟨A3, c3, rfl, hc3, hr3, hb3⟩)
  have HR3 : Hid (PrsL w3 w3.heap.size A3 L) := Lib.hid hr3
  have HM3 := Lib.hid ((MpI.made w2).below hb3)
  have HB3 := Lib.hid (below_a1 hb3)
  have hz3 := hb3.size
  simp only [World.size_alloc] at hz3
  clear hr3 hb3 s1
  go_loopw [27] (fun i wr => SmRel L w2.heap.size w3 i wr) (fun i _ => L.length - (intOf i).toNat)
  case atStart => exact ⟨0, by omega, rfl, HM3.out, One.of (Below.refl _ _)⟩
  case round =>
    obtain ⟨k, hk, rfl, hmp, hone⟩ := hrel
    have hKz := hmp.lt
    have hzr := hone.size
    by_cases hlt : k < L.length
    · obtain ⟨x, hx⟩ : ∃ x, L[k]? = some x := ⟨_, List.getElem?_eq_getElem hlt⟩
      obtain ⟨ad, rfl, hadb, y0, y1, _⟩ := HR3.out.pair hx
      have n1 := HM3.out.apart y0
      rw [block_of_add] at n1
      have z0 := (hone.cell (p := ad.add (k * 2)) (by rw [block_of_add]; exact hadb) (by rw [block_of_add]; exact n1)).trans y0
      have z1 := (hone.cell (p := ⟨(ad.add (k * 2)).block, (ad.add (k * 2)).off + 1, none⟩) (by show (ad.add (k * 2)).block < _; rw [block_of_add]; exact hadb) (by show (ad.add (k * 2)).block ≠ _; rw [block_of_add]; exact n1)).trans y1
      have hsn : L.take (k + 1) = L.take k ++ [x] := by rw [List.take_add_one, hx]; rfl
      have Hsn := Lib.hid hsn
      have hxr := hLr x (List.mem_of_getElem? hx)
      have hB0 : Below wr.heap.size wr (wr.alloc (.cells #[.int .i64 (x.1 : Int), .int .i32 x.2] 43)) := (Below.refl _ _).alloc (Nat.le_refl _) _
      have hmp1 := hmp.below hB0
      have Hone1 := Lib.hid (hone.trans (One.of hB0))
      have q0 : (wr.alloc (.cells #[.int .i64 (x.1 : Int), .int .i32 x.2] 43)).cell? ⟨wr.heap.size, 0, none⟩ = some (.int .i64 (x.1 : Int)) := by rw [cell_of_row _ wr.heap.size 0 _ _ _ (heap_alloc_new wr _)]; rfl
      have q1 : (wr.alloc (.cells #[.int .i64 (x.1 : Int), .int .i32 x.2] 43)).cell? ⟨wr.heap.size, 1, none⟩ = some (.int .i32 x.2) := by rw [cell_of_row _ wr.heap.size 1 _ _ _ (heap_alloc_new wr _)]; rfl
      have hl : k < L.length := hlt
      clear hsn n1 y0 y1 hmp
      have hkeep : ∀ p, ((cdOf (L.take k) x.2).isSome = true ∨ ¬ x.1 < 256) → cdOf (L.take k) p = cdOf (L.take (k + 1)) p := fun p hh => by rw [Hsn.out]; exact cd_keep hh p
      have Hkeep := Lib.hid hkeep
      clear hkeep
      by_cases hsm : (cdOf (L.take k) x.2).isSome = true
      · go_wp2_with (at_lookup; refine mp_look rfl _ _ rfl hmp1 rfl x.2 rfl hxr ?_; intro cc hcc; clear hcc)
        go_roundw
        case rel => exact ⟨k + 1, by omega, by simp, (hmp1.congr fun p => Hkeep.out p (.inl hsm)).mono (by omega), Hone1.out⟩
        case measure => simp [intOf]; omega
      · have hsm : (cdOf (L.take k) x.2).isSome = false := by simpa using hsm
        by_cases hc : x.1 < 256
        · have hc' : (x.1 : Int) < 256 := by omega
          have Hnew := Lib.hid (cd_new hsm hc)
          go_wp2_with (first
            | (at_lookup; refine mp_look rfl _ _ rfl hmp1 rfl x.2 rfl hxr ?_; intro cc hcc; clear hcc)
            | (at_mapUpdate; refine mp_put rfl _ _ _ rfl hmp1 rfl x.2 rfl hxr x.1 rfl hc (by omega) ?_; intro w4 hmp2 hg4))
          have Hmp2 := Lib.hid hmp2
          have Hg4 := Lib.hid hg4
          clear hmp2 hg4
          go_wp2_with fail
          go_roundw
          case rel => exact ⟨k + 1, by omega, by simp, Hmp2.out.congr fun p => by rw [Hsn.out]; exact Hnew.out p, Hone1.out.trans (One.grown Hg4.out)⟩
          case measure => simp [intOf]; omega
        · have hc' : ¬ ((x.1 : Int) < 256) := by omega
          go_wp2_with (at_lookup; refine mp_look rfl _ _ rfl hmp1 rfl x.2 rfl hxr ?_; intro cc hcc; clear hcc)
          go_roundw
          case rel => exact ⟨k + 1, by omega, by simp, (hmp1.congr fun p => Hkeep.out p (.inr hc)).mono (by omega), Hone1.out⟩
          case measure => simp [intOf]; omega
    · obtain rfl : k = L.length := by omega
      rw [List.take_length] at hmp
      have hkk : ¬ ((L.length : Int) < L.length) := by omega
      obtain ⟨wo, rfl⟩ : ∃ wo : World, wo = wr := ⟨_, rfl⟩
      have HBr : Hid (Below w.heap.size w wo) := Lib.hid ((HBx.out.trans (HB3.out.mono HBx.out.size)).trans (hone.below (by omega) (by omega)))
      have hfa : wo.heap[w.heap.size + 1]? = some (.cells #[.int .i64 0, .int .i64 0] 33 (0, 0)) := by
        rw [hone.block _ (by omega) (by omega), HB3.out.block _ (by omega)]; exact HF2.out
      have HFA := Lib.hid hfa
      have HMP := Lib.hid hmp
      have hTr : Tabs wo := Tabs_below hT HBr.out (Nat.le_refl _)
      have hrz : w.heap.size + 1 < wo.heap.size := by omega
      clear hone hfa hmp
      go_wp2_with (first
        | (go_at_call 24; refine (Count_good s ps hg (by omega) _ hTr).mono ?_; rintro e w5 ⟨rfl, hb5⟩; have HB5 := Lib.hid hb5; have hz5 := hb5.size; clear hb5)
        | (at_make; refine wpList_make_own _ rfl _ _ 51 rfl w5.heap.size 5 i0 (.int .u8 0) 1 Tryd.underlying51 hi iz0 iz1 .i64 .i64 _ ps.length rfl rfl rfl (by rw [iz2]; omega) (by unfold maxLen; omega) (Nat.le_refl _) ?_; intro w6 hown6 hg6))
      have HM5 := Lib.hid (HMP.out.below HB5.out)
      have HF5 := Lib.hid (heap_below HFA.out HB5.out)
      have HB6 : Hid (Below w5.heap.size w5 w6) := Lib.hid ((Below.refl _ _).grown hg6 (Nat.le_refl _) (by simp))
      have hz6 := hg6.size
      have hown7 := hown6.alloc (.stringIter s 0)
      have hit := World.iter_heap w6 s 0
      have HO7 := Lib.hid hown7
      have HI7 := Lib.hid hit
      have hp4 := hg.pre
      clear hown6 hg6 hown7 hit
      go_wp2_with fail
      go_loopw [12] (fun v wr => SeRel L s ps w6.heap.size w5.heap.size w5 v wr) (fun _ wr => s.size + 1 - wr.iterPos w6.heap.size)
      case atStart => exact ⟨0, 0, [], Run.zero _, HI7.out, rfl, HO7.out, HB6.out.alloc (by omega) _⟩
      case round =>
        obtain ⟨k, i, cs, hrun, hK, hcs, hown, hbk⟩ := hrel
        have hle := hrun.le hp4
        have hKlt := iter_lt hK
        have hzk := hbk.size
        have hpos := iterPos_of hK
        have hcl : cs.length = k := by have := congrArg List.length hcs; simp at this; omega
        by_cases hk : k < ps.length
        · obtain ⟨p, n, hst, hrun', hn1, hn4, hin, hp0, hp1, _⟩ := hrun.step hp4 hk
          have hstep := fun ty => next_step (P := Tryd.prog) hst (by omega) wr w6.heap.size hK ty
          have hb1 := Lib.below_iterAt hbk (k := w6.heap.size) (by omega) s (i + n)
          have hmp := HM5.out.below hb1
          have hpr : -2147483648 ≤ p ∧ p < 2147483648 := by omega
          have hpk : ps[k]? = some p := by rw [List.getElem?_eq_getElem hk, hst.2.2.1, List.getD_eq_getElem?_getD, List.getElem?_eq_getElem hk]; rfl
          cases hcd : cdOf L p with
          | none =>
            have hr2 : i = (textL (ps.take k)).length := hrun.2
            have Hr := Lib.hid (ec_bad (cdOf L) k ps cs 0 p hcs hpk hcd)
            rw [← hr2, Nat.zero_add] at Hr
            have hfr := heap_below HF5.out hb1
            have g0 : (wr.iterAt w6.heap.size s (i + n)).cell? ⟨w.heap.size + 1, 0, none⟩ = some (.int .i64 0) := by rw [cell_of_row _ _ 0 _ _ _ hfr]; rfl
            have g1 : (wr.iterAt w6.heap.size s (i + n)).cell? ⟨w.heap.size + 1, 1, none⟩ = some (.int .i64 0) := by rw [cell_of_row _ _ 1 _ _ _ hfr]; rfl
            have g2 : (wr.iterAt w6.heap.size s (i + n)).frozen? ⟨w.heap.size + 1, 0, none⟩ = false := frozen_of_row _ _ 0 _ _ hfr
            have g3 : (wr.iterAt w6.heap.size s (i + n)).frozen? ⟨w.heap.size + 1, 1, none⟩ = false := frozen_of_row _ _ 1 _ _ hfr
            have HB1x : Hid (Below w.heap.size w (wr.iterAt w6.heap.size s (i + n))) := Lib.hid ((HBr.out.trans (HB5.out.mono HBr.out.size)).trans (hb1.mono (by omega)))
            clear hr2 hfr hcs hpk hown hcl hst
            generalize wr.iterAt w6.heap.size s (i + n) = Wi at *
            go_wp2_with (at_lookup; refine mp_no rfl _ _ rfl hmp rfl p rfl hpr hcd ?_; intro cc)
            refine bodyPost_ret (v := .tuple #[.string ⟨#[]⟩, .agg #[.int .i64 6, .int .i64 i]]) (by simp [results, Tryd.results10, go_sem, g0, g1]) rfl ?_
            exact HP.out (.inr i) _ Hr.out ((HB1x.out.setCell (Nat.le_succ _) _).setCell (Nat.le_succ _) _)
          | some m =>
            obtain ⟨hm256, _⟩ := cdOf_some hcd
            have hm256' : (m : Int) < 256 := by omega
            have hw8 : IntKind.u8.wrap (m : Int) = m := by simp [IntKind.wrap, IntKind.bits, IntKind.signed]; omega
            have hown1 := own_iterAt hown hK (i + n)
            have hK1 := Lib.iterAt_heap wr w6.heap.size s i (i + n) hK
            have hsz1 : (wr.iterAt w6.heap.size s (i + n)).heap.size = wr.heap.size := Lib.iterAt_size _ _ _ _
            have hcell := cell_one_new (wr.iterAt w6.heap.size s (i + n)) (.int .u8 (m : Int)) 5
            rw [hsz1] at hcell
            have hw4 : w5.heap.size ≤ ((wr.iterAt w6.heap.size s (i + n)).alloc (.cells #[.int .u8 (m : Int)] 5)).heap.size := by simp; omega
            have hcs2 := Lib.hid (show (ps.take (k + 1)).map (cdOf L) = (cs ++ [m]).map some by rw [hst.snoc hk, List.map_append, hcs, List.map_append, List.map_cons, List.map_nil, hcd]; rfl)
            have hK2 := Below.heap_alloc (wr.iterAt w6.heap.size s (i + n)) (.cells #[.int .u8 (m : Int)] 5) w6.heap.size (by omega)
            rw [hK1] at hK2
            clear hcs hpk hst hcl
            go_wp2_with (first
              | (at_lookup; refine mp_yes rfl _ _ rfl hmp rfl p rfl hpr hcd ?_)
              | (at_builtin; refine wpList_append_own _ rfl _ _ 51 rfl w5.heap.size 5 i0 (.int .u8 0) 1 1 Tryd.underlying51 hi iz0 iz1 iz2 rfl (by decide) u12 k _ rfl (hown1.alloc _) ⟨wr.heap.size, 0, none⟩ 1 1 [.int .u8 (m : Int)] rfl rfl hcell (by intro u hu; simp at hu; subst hu; rfl) (by unfold maxLen; omega) (by omega) hw4 ?_; intro v' w8 hown5 hg5 _))
            have hK5 := (hg5.block w6.heap.size (by simp; omega) (iter_ne hown hK)).trans hK2
            have hb5 := below_grownOwn (hb1.alloc (by omega) (.cells #[.int .u8 (m : Int)] 5)) (hown1.alloc _) hg5 hw4 (Nat.le_refl _)
            refine ⟨⟨k + 1, i + n, cs ++ [m], hrun', hK5, hcs2.out, ?_, hb5⟩, ?_⟩
            · rw [List.map_append, List.map_append]; exact hown5
            · rw [hpos, iterPos_of hK5]; omega
        · have hk2 : k = ps.length := by omega
          subst hk2
          obtain ⟨hi2, _, hie⟩ := hrun.end_ hp4
          have hend := fun ty => Lib.run_next_end_at (P := Tryd.prog) wr w6.heap.size s i ty hK (by simp at hie; omega)
          rw [List.take_length] at hcs
          have Hr := Lib.hid (ec_all (cdOf L) ps cs 0 hcs)
          have hfr := heap_below HF5.out hbk
          have g0 : wr.cell? ⟨w.heap.size + 1, 0, none⟩ = some (.int .i64 0) := by rw [cell_of_row _ _ 0 _ _ _ hfr]; rfl
          have g1 : wr.cell? ⟨w.heap.size + 1, 1, none⟩ = some (.int .i64 0) := by rw [cell_of_row _ _ 1 _ _ _ hfr]; rfl
          have g2 : wr.frozen? ⟨w.heap.size + 1, 0, none⟩ = false := frozen_of_row _ _ 0 _ _ hfr
          have g3 : wr.frozen? ⟨w.heap.size + 1, 1, none⟩ = false := frozen_of_row _ _ 1 _ _ hfr
          have hconv := conv_own (P := Tryd.prog) 51 9 5 Tryd.underlying51 Tryd.underlying5 Tryd.underlying9 wr hown
          rw [nums_codes] at hconv
          have HBe : Hid (Below w.heap.size w wr) := Lib.hid ((HBr.out.trans (HB5.out.mono HBr.out.size)).trans (hbk.mono (by omega)))
          clear hcs hfr hi2 hie hcl hown hK hrun hle hpos
          go_wp2_with fail
          refine bodyPost_ret (v := .tuple #[.string ⟨(cs.map Nat.toUInt8).toArray⟩, .agg #[.int .i64 0, .int .i64 0]]) (by simp [results, Tryd.results10, go_sem, g0, g1]) rfl ?_
          exact HP.out (.inl (cs.map Nat.toUInt8)) _ Hr.out ((HBe.out.setCell (Nat.le_succ _) _).setCell (Nat.le_succ _) _)
end Go.Proofs.YtpnjandlpbjddabDoor
