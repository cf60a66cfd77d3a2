/- Contract of run.New; condition: at most 4096 pieces, texts of less than 10^6 bytes. -/
import Derived.Test.YtpnjandlpbjddabDoorZ6
set_option maxRecDepth 100000
set_option maxHeartbeats 4000000
namespace Go.Proofs.YtpnjandlpbjddabDoor
open Go Go.RowKit

theorem row_info : (Tryd.prog.info? 73).map (fun i => (i.zero, i.size, i.bytes)) = some (some (.agg #[.int .i64 0, .int .i64 0, .int .i32 0, .slice none 0 0]), 4, 48) := by kernel_rfl
theorem bool_info : (Tryd.prog.info? 4).map (fun i => (i.zero, i.size, i.bytes)) = some (some (.bool false), 1, 1) := by kernel_rfl
/-- Two rows of a call's own, of other types, lie apart. -/
theorem own_apart {w : World} {b1 b2 s1 s2 n1 n2 : Nat} {e1 e2 : TypeId} {v1 : Value} {g c : Nat} {x1 x2 : List Value} (h1 : w.ownsRow b1 e1 s1 v1 n1 x1) (h2 : w.ownsRow b2 e2 s2 (.slice (some ⟨g, 0, none⟩) n2 c) n2 x2) (hne : e1 ≠ e2) : v1.ownBlock ≠ some g := by
  rcases h1.2 with ⟨rfl, _⟩ | ⟨g1, cap, cur, rfl, hb, hg, rest⟩
  · simp [Value.ownBlock]
  · rcases h2.2 with ⟨h, _⟩ | ⟨g2, cap2, cur2, he, hb2, hg2, rest2⟩
    · cases h
    · injection he with he
      injection he with he
      injection he with he
      subst he
      simp only [Value.ownBlock, ne_eq, Option.some.injEq]
      rintro rfl
      rw [hg] at hg2
      injection hg2 with hg2
      injection hg2 with _ h2 _
      exact hne h2
theorem own_apart2 {w : World} {b1 b2 s1 s2 n1 n2 : Nat} {e1 e2 : TypeId} {v1 v2 : Value} {x1 x2 : List Value} (h1 : w.ownsRow b1 e1 s1 v1 n1 x1) (h2 : w.ownsRow b2 e2 s2 v2 n2 x2) (hne : e1 ≠ e2) : v1.ownBlock = none ∨ v1.ownBlock ≠ v2.ownBlock := by
  rcases h2.2 with ⟨rfl, _⟩ | ⟨g2, cap2, cur2, rfl, hb2, hg2, rest2⟩
  · cases h : v1.ownBlock with
    | none => exact .inl rfl
    | some k => exact .inr (by simp [Value.ownBlock])
  · exact .inr (own_apart h1 h2 hne)
/-- Signs lie apart from a row of another type. -/
theorem sg_grown {w w' : World} {B b s n : Nat} {e : TypeId} {v : Value} {xs : List Value} {x : Rw × Sl} (h : SgOk w B x) (hown : w.ownsRow b e s v n xs) (hne : e ≠ 21) (hg : w.grownBy w' v.ownBlock) (hB : B ≤ w.heap.size) : SgOk w' B x :=
  h.keep fun k hk ⟨cs, fr, hh⟩ => by
    refine hg.block k (by omega) ?_
    rcases hown.2 with ⟨rfl, _⟩ | ⟨g, cap, cur, rfl, hb, hg2, rest⟩
    · simp [Value.ownBlock]
    · simp only [Value.ownBlock, ne_eq, Option.some.injEq]
      rintro rfl
      rw [hh] at hg2
      injection hg2 with hg2
      injection hg2 with _ h2 _
      exact hne h2.symm
theorem heap_below {w w1 : World} {K : Nat} {o : Obj} (h : w.heap[K]? = some o) (hb : Below w.heap.size w w1) : w1.heap[K]? = some o :=
  (hb.block K (Array.getElem?_eq_some_iff.1 h).1).trans h
def RsOk (w : World) (rs : List (Rw × Sl)) : Prop := ∀ x ∈ rs, RwOk x.1 ∧ SgOk w w.heap.size x
theorem RsOk.below {w w' : World} {rs : List (Rw × Sl)} (h : RsOk w rs) (hb : Below w.heap.size w w') : RsOk w' rs := fun x hx => ⟨(h x hx).1, ((h x hx).2.below hb).more hb.size⟩
theorem RsOk.grown {w w' : World} {b s n : Nat} {e : TypeId} {v : Value} {xs : List Value} {rs : List (Rw × Sl)} (h : RsOk w rs) (hown : w.ownsRow b e s v n xs) (hne : e ≠ 21) (hg : w.grownBy w' v.ownBlock) : RsOk w' rs :=
  fun x hx => ⟨(h x hx).1, (sg_grown (h x hx).2 hown hne hg (Nat.le_refl _)).more hg.size⟩
def NwOk (l : List Pce) (rs : List (Rw × Sl)) : Prop := ∃ rs0 : List (Rw × Sl), newF [] l 0 = .inl (rs0.map (·.1)) ∧ rs.Perm rs0 ∧ rs.Pairwise fun a b => a.1.1 ≤ b.1.1
def NwPost (l : List Pce) (w0 : World) (e : Ending) (w' : World) : Prop :=
  ((∃ A c rs, NwOk l rs ∧ rs.length ≤ c ∧ RdsR w' w'.heap.size A rs ∧ RsOk w' rs ∧ e = .returned (.tuple #[.agg #[.slice A rs.length c], .agg #[.int .i64 0, .int .i64 0]])) ∨
    ∃ k : Nat, newF [] l 0 = .inr k ∧ e = .returned (.tuple #[.agg #[.slice none 0 0], .agg #[.int .i64 5, .int .i64 k]])) ∧ Below w0.heap.size w0 w'
def NwRel (l : List Pce) (base : Nat) (W0 : World) (v4 v5 i : Value) (wr : World) : Prop := ∃ (k : Nat) (rs : List (Rw × Sl)) (bits : List Bool), k ≤ l.length ∧ i = .int .i64 k ∧ newF [] l 0 = newF (rs.map (·.1)) (l.drop k) k ∧ rs.length ≤ k ∧
  wr.ownsRow base 73 4 v4 rs.length (rs.flatMap rV) ∧ wr.ownsRow base 4 1 v5 bits.length (bits.map Value.bool) ∧ SeenOk bits (rs.map (·.1)) ∧ bits.length ≤ 1048576 ∧ RsOk wr rs ∧ Below base W0 wr
def IwRel (base : Nat) (W0 : World) (r : Rw) (q : Sl) (rs : List (Rw × Sl)) (v4 : Value) (g5 c5 : Nat) (bits : List Bool) (B8 : Nat) (i : Value) (wr : World) : Prop := ∃ c : Nat, r.1 ≤ c ∧ c ≤ r.1 + r.2.1 ∧ i = .int .i64 c ∧ (∀ j, r.1 ≤ j → j < c → bits[j]? = some false) ∧
  wr.ownsRow base 4 1 (.slice (some ⟨g5, 0, none⟩) bits.length c5) bits.length ((setB bits r.1 c).map Value.bool) ∧ wr.ownsRow base 73 4 v4 rs.length (rs.flatMap rV) ∧ RsOk wr rs ∧ SgOk wr wr.heap.size (r, q) ∧
  wr.heap[B8]? = some (.cells #[.int .i64 (r.1 : Int), .int .i64 (r.2.1 : Int), .int .i32 r.2.2.1, .slice q.1 q.2.1 q.2.2] 73 (0, 0)) ∧ Below base W0 wr
theorem own_some {w : World} {base : Nat} {e : TypeId} {s n : Nat} {v : Value} {xs : List Value} (h : w.ownsRow base e s v n xs) (hn : 0 < n) : ∃ g c, v = .slice (some ⟨g, 0, none⟩) n c := by
  rcases h.2 with ⟨_, h⟩ | ⟨g, cap, cur, h, _⟩
  · omega
  · exact ⟨g, cap, h⟩
theorem heap_ne {w : World} {base : Nat} {e e' : TypeId} {s n : Nat} {v : Value} {xs : List Value} (h : w.ownsRow base e s v n xs) {K : Nat} {cs : Array Value} {fr : Nat × Nat} (hk : w.heap[K]? = some (.cells cs e' fr)) (hne : e ≠ e') : some K ≠ v.ownBlock := by
  rcases h.2 with ⟨rfl, _⟩ | ⟨g, cap, cur, rfl, hb, hg, rest⟩
  · simp [Value.ownBlock]
  · simp only [Value.ownBlock, ne_eq, Option.some.injEq]
    rintro rfl
    rw [hg] at hk
    injection hk with hk
    injection hk with _ h2 _
    exact hne h2
theorem set_grown {w : World} {g j : Nat} (u : Value) : w.grownBy (w.setCell ⟨g, j, none⟩ u) (some g) :=
  ⟨rfl, rfl, rfl, by simp, fun k _ hne => Go.Deep.blk_setCell_other w _ u k (fun e => hne (by rw [e]))⟩
def W2 (w : World) : World := (w.alloc (.cells #[.slice none 0 0] 24)).alloc (.cells #[.int .i64 0, .int .i64 0] 33)
theorem nw_boxes {w W : World} (h : Below (w.heap.size + 2) (W2 w) W) :
    (W.cell? ⟨w.heap.size, 0, none⟩ = some (.slice none 0 0) ∧ W.cell? ⟨w.heap.size + 1, 0, none⟩ = some (.int .i64 0) ∧ W.cell? ⟨w.heap.size + 1, 1, none⟩ = some (.int .i64 0)) ∧ (W.frozen? ⟨w.heap.size, 0, none⟩ = false ∧ W.frozen? ⟨w.heap.size + 1, 0, none⟩ = false ∧ W.frozen? ⟨w.heap.size + 1, 1, none⟩ = false) ∧ w.heap.size + 1 < W.heap.size := by
  have hs := h.size
  unfold W2 at h hs
  simp only [World.size_alloc] at hs
  have h2 : Below ((w.alloc (.cells #[.slice none 0 0] 24)).alloc (.cells #[.int .i64 0, .int .i64 0] 33)).heap.size ((w.alloc (.cells #[.slice none 0 0] 24)).alloc (.cells #[.int .i64 0, .int .i64 0] 33)) W := by simpa using h
  obtain ⟨a1, a2, _⟩ := bx h2
  obtain ⟨b1, b2, _⟩ := bx (below_a1 h2)
  simp only [World.size_alloc] at a1 a2
  exact ⟨⟨b1 0, a1 0, a1 1⟩, ⟨b2 0, a2 0, a2 1⟩, by omega⟩
theorem nw_heap {w W : World} (h : Below (w.heap.size + 2) (W2 w) W) : W.heap[w.heap.size]? = some (.cells #[.slice none 0 0] 24 (0, 0)) ∧ W.heap[w.heap.size + 1]? = some (.cells #[.int .i64 0, .int .i64 0] 33 (0, 0)) := by
  rw [h.block _ (by omega), h.block _ (by omega)]
  unfold W2
  constructor
  · rw [Below.heap_alloc _ _ _ (by simp)]; exact heap_alloc_new w _
  · have := heap_alloc_new (w.alloc (.cells #[.slice none 0 0] 24)) (.cells #[.int .i64 0, .int .i64 0] 33)
    simp only [World.size_alloc] at this
    exact this
theorem set3_heap {w : World} {g1 g2 k : Nat} (a b c : Value) (h1 : k ≠ g1) (h2 : k ≠ g2) : (((w.setCell ⟨g1, 0, none⟩ a).setCell ⟨g2, 0, none⟩ b).setCell ⟨g2, 1, none⟩ c).heap[k]? = w.heap[k]? := by
  rw [heap_set h2, heap_set h2, heap_set h1]
theorem RsOk.set3 {w : World} {rs : List (Rw × Sl)} {g1 g2 : Nat} (h : RsOk w rs) (a b c : Value) {T1 T2 : TypeId} {c1 c2 : Array Value} (h1 : w.heap[g1]? = some (.cells c1 T1 (0, 0))) (h2 : w.heap[g2]? = some (.cells c2 T2 (0, 0))) (n1 : T1 ≠ 21) (n2 : T2 ≠ 21) :
    RsOk (((w.setCell ⟨g1, 0, none⟩ a).setCell ⟨g2, 0, none⟩ b).setCell ⟨g2, 1, none⟩ c) rs := fun x hx => by
  have e : (((w.setCell ⟨g1, 0, none⟩ a).setCell ⟨g2, 0, none⟩ b).setCell ⟨g2, 1, none⟩ c).heap.size = w.heap.size := by simp
  refine ⟨(h x hx).1, ?_⟩
  rw [e]
  refine (h x hx).2.keep fun k hk ⟨cs, fr, hh⟩ => set3_heap a b c ?_ ?_
  · rintro rfl
    rw [hh] at h1; injection h1 with h1; injection h1 with _ h1 _; exact n1 h1.symm
  · rintro rfl
    rw [hh] at h2; injection h2 with h2; injection h2 with _ h2 _; exact n2 h2.symm
theorem RdsR.set3 {w : World} {A : Option Addr} {rs : List (Rw × Sl)} {g1 g2 base : Nat} (h : RdsR w w.heap.size A rs) (hA : ∀ ad, A = some ad → base ≤ ad.block) (h1 : g1 < base) (h2 : g2 < base) (a b c : Value) :
    RdsR (((w.setCell ⟨g1, 0, none⟩ a).setCell ⟨g2, 0, none⟩ b).setCell ⟨g2, 1, none⟩ c) (((w.setCell ⟨g1, 0, none⟩ a).setCell ⟨g2, 0, none⟩ b).setCell ⟨g2, 1, none⟩ c).heap.size A rs := by
  have e : (((w.setCell ⟨g1, 0, none⟩ a).setCell ⟨g2, 0, none⟩ b).setCell ⟨g2, 1, none⟩ c).heap.size = w.heap.size := by simp
  rw [e]
  refine ⟨⟨h.1.1, fun h0 => ?_⟩, h.2⟩
  obtain ⟨ad, hA2, hb, hc⟩ := h.1.2 h0
  have hba := hA ad hA2
  refine ⟨ad, hA2, hb, fun j u hu => ?_⟩
  have hbk : (ad.add j).block = ad.block := by unfold Addr.add; split <;> rfl
  rw [cell_set (by omega), cell_set (by omega), cell_set (by omega)]
  exact hc j u hu
theorem four_new (w : World) (a b c d : Value) (T : TypeId) : ∀ j u, [a, b, c, d][j]? = some u → (w.alloc (.cells #[a, b, c, d] T)).cell? ((⟨w.heap.size, 0, none⟩ : Addr).add j) = some u := by
  intro j u hu
  rw [addr_eq rfl]
  show (w.alloc _).cell? ⟨w.heap.size, 0 + j, none⟩ = _
  rw [Nat.zero_add, cell_of_row _ w.heap.size j _ T (0, 0) (heap_alloc_new w _)]
  simpa using hu
theorem below_w2 {w W : World} (h : Below (w.heap.size + 2) (W2 w) W) : Below w.heap.size w W := below_a2 (by unfold W2 at h; simpa using h)
theorem New_any (l : List Pce) (A : Option Addr) (c : Nat) (hl : l.length ≤ 4096) (hok : ∀ p ∈ l, PceOk p ∧ p.2.2.2.1.size ≤ 1000000) (w : World) (hT : Tabs w) (hA : Reads w w.heap.size 4 A l.length (l.flatMap pV)) :
    Calls Tryd.prog 25 #[.slice A l.length c] w (NwPost l w) := by
  have HE : Hid (∀ k w', newF [] l 0 = .inr k → Below w.heap.size w w' → NwPost l w (.returned (.tuple #[.agg #[.slice none 0 0], .agg #[.int .i64 5, .int .i64 (k : Nat)]])) w') := Lib.hid fun k w' h hb => ⟨.inr ⟨k, h, rfl⟩, hb⟩
  have HO : Hid (∀ A c rs w', NwOk l rs → rs.length ≤ c → RdsR w' w'.heap.size A rs → RsOk w' rs → Below w.heap.size w w' → NwPost l w (.returned (.tuple #[.agg #[.slice A rs.length c], .agg #[.int .i64 0, .int .i64 0]])) w') := Lib.hid fun A c rs w' h1 h2 h3 h4 hb => ⟨.inl ⟨A, c, rs, h1, h2, h3, h4, rfl⟩, hb⟩
  generalize NwPost l w = P at *
  obtain ⟨i0, hi, iz0, iz1, iz2⟩ := info_parts row_info
  obtain ⟨j0, hj, jz0, jz1, jz2⟩ := info_parts bool_info
  have Hok := Lib.hid hok
  clear hok
  go_enter Tryd.func25, Tryd.ntmps25
  go_wp2_with fail
  go_loopw [4, 5, 14] (fun v4 v5 i wr => NwRel l (w.heap.size + 2) (W2 w) v4 v5 i wr) (fun _ _ i _ => l.length - (intOf i).toNat)
  case atStart => exact ⟨0, [], [], by omega, rfl, rfl, by simp, World.ownsRow_nil _ _ _ _, World.ownsRow_nil _ _ _ _, seen_nil, by simp, by intro x hx; simp at hx, Below.refl _ _⟩
  case round =>
    obtain ⟨k, rs, bits, hk, rfl, hnf, hrk, hown4, hown5, hseen, hbl, hrs, hb⟩ := hrel
    obtain ⟨_, _, hz⟩ := nw_boxes hb
    by_cases hlt : k < l.length
    · obtain ⟨p, hp⟩ : ∃ p, l[k]? = some p := ⟨_, List.getElem?_eq_getElem hlt⟩
      obtain ⟨ad, rfl, hadb, hadc⟩ := hA.2 (by omega)
      obtain ⟨hpk, hps⟩ := Hok.out p (List.mem_of_getElem? hp)
      have hce : ∀ i u, (pV p)[i]? = some u → i < 4 → wr.cell? (ad.add (k * 4 + i)) = some u := fun i u hu hi4 => by
        have h1 := hadc (k * 4 + i) u ((flat4_at pV pV_len l k i p hp hi4).trans hu)
        have hbk : (ad.add (k * 4 + i)).block = ad.block := by unfold Addr.add; split <;> rfl
        rw [hb.cell (by rw [hbk]; omega), W2, World.cell?_alloc_lt _ _ _ (by rw [hbk]; simp; omega), World.cell?_alloc_lt _ _ _ (by rw [hbk]; exact hadb)]
        exact h1
      have had : ∀ i, i ≠ 0 → ad.add (k * 4 + i) = ⟨(ad.add (k * 4)).block, (ad.add (k * 4)).off + i, none⟩ := fun i hi => by
        rw [← addr_add]
        show (if i = 0 then _ else _) = _
        rw [if_neg hi]
      have q0 := hce 0 _ rfl (by omega)
      have q1 := hce 1 _ rfl (by omega)
      have q2 := hce 2 _ rfl (by omega)
      have q3 := hce 3 _ rfl (by omega)
      rw [Nat.add_zero] at q0
      rw [had 1 (by omega)] at q1
      rw [had 2 (by omega)] at q2
      rw [had 3 (by omega)] at q3
      clear hce had
      have Hnf := Lib.hid hnf
      clear hnf
      have hpr := fun w' hT => PRow_any p hpk hps w' hT
      unfold pV at hpr
      have hB0 := below_w2 hb
      have hT1 : ∀ o, Tabs (wr.alloc o) := fun o => tabs_alloc (Tabs_below hT hB0 (Nat.le_refl _)) o
      have hdk : l.drop k = p :: l.drop (k + 1) := by
        obtain ⟨h1, h2⟩ := List.getElem?_eq_some_iff.1 hp
        rw [List.drop_eq_getElem_cons h1, h2]
      have hstep : newF [] l 0 = newF (rs.map (·.1)) (p :: l.drop (k + 1)) k := by rw [← hdk]; exact Hnf.out
      simp only [newF] at hstep
      clear hdk
      cases hr : rowOf p with
      | none =>
        rw [hr] at hstep
        have Hst := Lib.hid hstep
        have hpr0 : ∀ w', Tabs w' → Calls Tryd.prog 44 #[.agg #[.int .i64 p.1, .int .i32 p.2.1, .int .i64 p.2.2.1, .string p.2.2.2.1]] w' fun e w'' => e = .returned (.tuple #[.agg #[.int .i64 0, .int .i64 0, .int .i32 0, .slice none 0 0], .bool false]) ∧ Below w'.heap.size w' w'' := fun w' hT => (hpr w' hT).mono fun e w'' h => by
          obtain ⟨h1 | ⟨r, v, h1, _⟩, h2⟩ := h
          · exact ⟨h1.2, h2⟩
          · rw [hr] at h1; cases h1
        clear hpr hstep hr Hnf hown4 hown5 hseen hrs
        go_wp2_with (go_at_call 44; refine (hpr0 _ (hT1 _)).mono ?_; rintro e w1 ⟨rfl, hb1⟩; have HB1 := (hb.alloc (by omega) _).trans (hb1.mono (by simp; omega)); have hz1 := hb1.size; obtain ⟨⟨c0, c1, c2⟩, ⟨f0, f1, f2⟩, g0⟩ := nw_boxes HB1; have g1 : w.heap.size < w1.heap.size := (by omega))
        refine bodyPost_ret (v := .tuple #[.agg #[.slice none 0 0], .agg #[.int .i64 5, .int .i64 (k : Nat)]]) (by simp [results, Tryd.results25, go_sem, World.cell?_alloc_lt, g0, g1, c0, c1, c2]) rfl ?_
        exact HE.out k _ Hst.out (((((below_w2 HB1).setCell (Nat.le_refl _) _).setCell (by simp) _).setCell (by simp) _).alloc (by simp; omega) _)
      | some r =>
        rw [hr] at hstep
        simp only at hstep
        have hok := rowOf_ok hpk hr
        have hpr1 : ∀ w', Tabs w' → Calls Tryd.prog 44 #[.agg #[.int .i64 p.1, .int .i32 p.2.1, .int .i64 p.2.2.1, .string p.2.2.2.1]] w' fun e w'' => ∃ q : Sl, e = .returned (.tuple #[.agg #[.int .i64 (r.1 : Int), .int .i64 (r.2.1 : Int), .int .i32 r.2.2.1, .slice q.1 q.2.1 q.2.2], .bool true]) ∧ SgOk w'' w''.heap.size (r, q) ∧ Below w'.heap.size w' w'' := fun w' hT => (hpr w' hT).mono fun e w'' h => by
          obtain ⟨h1 | ⟨r', v, h1, h3, h4⟩, h2⟩ := h
          · rw [hr] at h1; cases h1.1
          · rw [hr] at h1; injection h1 with h1; subst h1
            exact ⟨v, h3, h4, h2⟩
        clear hpr hr Hnf
        obtain ⟨ok1, ok2, ok3⟩ := id hok
        obtain ⟨A5, c5, hv5, hc5, _⟩ := Reads.of_own hown5
        have hend := fun v W => End_any r.1 r.2.1 r.2.2.1 v ok2 W
        have e1 : IntKind.i64.wrap ((r.1 : Int) + r.2.1 - bits.length) = (r.1 : Int) + r.2.1 - bits.length := IntWalk.i64_in _ (by omega)
        subst hv5
        have Hstep := Lib.hid hstep
        have Hown4 := Lib.hid hown4
        have Hown5 := Lib.hid hown5
        have Hseen := Lib.hid hseen
        have Hrs := Lib.hid hrs
        clear hstep hown4 hown5 hseen hrs
        by_cases hgrow : bits.length < r.1 + r.2.1
        · have hpos : (0 : Int) < (r.1 : Int) + r.2.1 - bits.length := by omega
          have hmm : (r.1 : Int) + r.2.1 - bits.length = ((r.1 + r.2.1 - bits.length : Nat) : Int) := by omega
          rw [hmm] at e1 hpos
          go_wp2_with (first | (go_at_call 44; refine (hpr1 _ (hT1 _)).mono ?_; rintro e w1 ⟨q, rfl, hsg, hb1⟩; have HB1 := (hb.alloc (by omega) _).trans (hb1.mono (by simp; omega)); have hz1 := sz_a1 hb1; have HRS1 := Lib.hid (Hrs.out.below (below_a1 hb1)); have HO41 := Lib.hid (own_below (Hown4.out.alloc _) hb1); have HO51 := Lib.hid (own_below (Hown5.out.alloc _) hb1); have Hsg := Lib.hid hsg; clear hsg) | (go_at_call 40; refine (hend _ _).mono ?_; rintro e w2 ⟨rfl, hb2⟩; have HB2 := (HB1.alloc (by omega) _).trans (hb2.mono (by simp; omega)); have hz2 := sz_a1 hb2; have HRS2 := Lib.hid (HRS1.out.below (below_a1 hb2)); have HO42 := Lib.hid (own_below (HO41.out.alloc _) hb2); have HO52 := Lib.hid (own_below (HO51.out.alloc _) hb2); have HSG2 := Lib.hid ((Hsg.out.below (below_a1 hb2)).more (Nat.le_of_succ_le hz2)); have H8 := Lib.hid (heap_below (heap_alloc_new w1 (.cells #[.int .i64 (r.1 : Int), .int .i64 (r.2.1 : Int), .int .i32 r.2.2.1, .slice q.1 q.2.1 q.2.2] 73)) hb2); obtain ⟨⟨x0, x1, x2, x3⟩, _⟩ := bx4 hb2) | (at_builtin; obtain ⟨v5', w3, hrun, hown5', hgr5⟩ := run_append_zeros (P := Tryd.prog) w2 (w.heap.size + 2) 78 3 78 4 j0 _ (.bool false) Tryd.underlying78 Tryd.underlying3 hj jz0 jz1 jz2 rfl rfl _ _ _ HO52.out (r.1 + r.2.1 - bits.length) (by omega) (by omega) (by omega); refine Lib.wpList_append_run _ rfl _ _ _ _ rfl _ _ rfl rfl _ _ hrun ?_; clear hrun; have HO43 := Lib.hid (HO42.out.kept hgr5 (own_apart2 HO42.out HO52.out (by decide))); have HRS3 := Lib.hid (HRS2.out.grown HO52.out (by decide) hgr5); have HSG3 := Lib.hid ((sg_grown HSG2.out HO52.out (by decide) hgr5 (Nat.le_refl _)).more hgr5.size); have H83 := Lib.hid ((hgr5.block _ (by omega) (heap_ne HO52.out H8.out (by decide))).trans H8.out); have HB3 := below_grownOwn HB2 HO52.out hgr5 (by omega) (Nat.le_refl _); have hz3 := hgr5.size; obtain ⟨bits2, hbits2⟩ : ∃ b : List Bool, b = bits ++ List.replicate (r.1 + r.2.1 - bits.length) false := ⟨_, rfl⟩; have hl2 : bits2.length = r.1 + r.2.1 := (by rw [hbits2]; simp; omega); have hown6 : w3.ownsRow (w.heap.size + 2) 4 1 v5' bits2.length (bits2.map Value.bool) := (by rw [hl2, hbits2, List.map_append, List.map_replicate]; rw [show bits.length + (r.1 + r.2.1 - bits.length) = r.1 + r.2.1 by omega] at hown5'; exact hown5'); obtain ⟨g5, c5, rfl⟩ := own_some hown6 (by omega); have HO53 := Lib.hid hown6; have HSEEN := Lib.hid (show SeenOk bits2 (rs.map (·.1)) by rw [hbits2]; exact seen_more Hseen.out _); have x0' := cell_of_row _ _ 0 _ _ _ H83.out; simp at x0'; have HL2 := Lib.hid (show r.1 + r.2.1 ≤ bits2.length by omega); have HL3 := Lib.hid (show bits2.length ≤ 1048576 by omega); clear hown5' hown6 hgr5 hbits2 hl2))
          clear x0 x1 x2 x3
          go_loopw [11] (fun i wr2 => IwRel (w.heap.size + 2) (W2 w) r q rs u4 g5 c5 bits2 w1.heap.size i wr2) (fun i _ => r.1 + r.2.1 - (intOf i).toNat)
          case atStart => exact ⟨r.1, Nat.le_refl _, by omega, rfl, (fun j h1 h2 => by omega), by rw [setB_none]; exact HO53.out, HO43.out, HRS3.out, HSG3.out, H83.out, HB3⟩
          case round =>
            obtain ⟨cc, hc1, hc2, rfl, hfalse, ho5, ho4, hrs2, hsg2, h82, hbb⟩ := hrel
            have y0 := cell_of_row _ _ 0 _ _ _ h82
            have y1 := cell_of_row _ _ 1 _ _ _ h82
            have y2 := cell_of_row _ _ 2 _ _ _ h82
            have y3 := cell_of_row _ _ 3 _ _ _ h82
            simp at y0 y1 y2 y3
            have Hfalse := Lib.hid hfalse
            have Ho5 := Lib.hid ho5
            have Ho4 := Lib.hid ho4
            have Hrs2 := Lib.hid hrs2
            have Hsg2 := Lib.hid hsg2
            have H82 := Lib.hid h82
            have Hb := Lib.hid hbb
            have hg5 := (ho5.lt g5 rfl).2
            obtain ⟨_, _, hzb⟩ := nw_boxes hbb
            by_cases hcl : cc < r.1 + r.2.1
            · have hcb : cc < bits2.length := by have := HL2.out; omega
              have hs5 := ho5.cellAt cc (by omega)
              rw [List.getElem?_map, setB_get _ _ _ _ hcb, decide_eq_false (Nat.lt_irrefl cc), Bool.and_false, Bool.or_false] at hs5
              simp only [Option.map_some] at hs5
              have hfz := ho5.frozenAt cc
              cases hbit : bits2[cc] with
              | true =>
                have hov : ovl (rs.map (·.1)) r = true := seen_hit HSEEN.out ⟨hc1, hcl⟩ (by rw [List.getElem?_eq_getElem hcb, hbit])
                have Hst := Lib.hid (show newF [] l 0 = .inr k by rw [Hstep.out, if_pos hov])
                rw [hbit] at hs5
                clear hfalse ho5 ho4 hrs2 hsg2 h82 hov
                go_wp2_with (go_at_call 40; refine (hend _ _).mono ?_; rintro e w4 ⟨rfl, hb4⟩; have hz4 := hb4.size; have HB4 := (Hb.out).trans (hb4.mono (by omega)); have HO44 := Lib.hid (own_below Ho4.out hb4); have HO54 := Lib.hid (own_below Ho5.out hb4); have HRS4 := Lib.hid (Hrs2.out.below hb4); have HSG4 := Lib.hid ((Hsg2.out.below hb4).more hz4); have H84 := Lib.hid (heap_below H82.out hb4); have z0 := (cell_of_row _ _ 0 _ _ _ H84.out); have z1 := (cell_of_row _ _ 1 _ _ _ H84.out); have z2 := (cell_of_row _ _ 2 _ _ _ H84.out); have z3 := (cell_of_row _ _ 3 _ _ _ H84.out); simp at z0 z1 z2 z3; have s5 := (hb4.cell (p := ⟨g5, cc, none⟩) hg5).trans hs5; obtain ⟨⟨c0, c1, c2⟩, ⟨f0, f1, f2⟩, g0⟩ := nw_boxes HB4; have g1 : w.heap.size < w4.heap.size := (by omega))
                refine bodyPost_ret (v := .tuple #[.agg #[.slice none 0 0], .agg #[.int .i64 5, .int .i64 (k : Nat)]]) (by simp [results, Tryd.results25, go_sem, World.cell?_alloc_lt, g0, g1, c0, c1, c2]) rfl ?_
                exact HE.out k _ Hst.out ((((below_w2 HB4).setCell (Nat.le_refl _) _).setCell (by simp) _).setCell (by simp) _)
              | false =>
                rw [hbit] at hs5
                have hbn : bits2[cc]? = some false := by rw [List.getElem?_eq_getElem hcb, hbit]
                clear hfalse ho5 ho4 hrs2 hsg2 h82
                go_wp2_with (go_at_call 40; refine (hend _ _).mono ?_; rintro e w4 ⟨rfl, hb4⟩; have hz4 := hb4.size; have HB4 := (Hb.out).trans (hb4.mono (by omega)); have HO44 := Lib.hid (own_below Ho4.out hb4); have HO54 := Lib.hid (own_below Ho5.out hb4); have HRS4 := Lib.hid (Hrs2.out.below hb4); have HSG4 := Lib.hid ((Hsg2.out.below hb4).more hz4); have H84 := Lib.hid (heap_below H82.out hb4); have z0 := (cell_of_row _ _ 0 _ _ _ H84.out); have z1 := (cell_of_row _ _ 1 _ _ _ H84.out); have z2 := (cell_of_row _ _ 2 _ _ _ H84.out); have z3 := (cell_of_row _ _ 3 _ _ _ H84.out); simp at z0 z1 z2 z3; have s5 := (hb4.cell (p := ⟨g5, cc, none⟩) hg5).trans hs5; have s6 := (hb4.frozen (p := ⟨g5, cc, none⟩) hg5).trans hfz; clear hs5 hfz)
                have hst5 := HO54.out.stored cc (.bool true)
                have hsg5 := set_grown (w := w4) (g := g5) (j := cc) (.bool true)
                have hlt8 := (Array.getElem?_eq_some_iff.1 H84.out).1
                refine ⟨⟨cc + 1, by omega, by omega, by simp, fun j h1 h2 => ?_, ?_, HO44.out.kept hsg5 (.inr (own_apart HO44.out HO54.out (by decide))), HRS4.out.grown HO54.out (by decide) hsg5, (sg_grown HSG4.out HO54.out (by decide) hsg5 (Nat.le_refl _)).more hsg5.size, (hsg5.block _ hlt8 (heap_ne HO54.out H84.out (by decide))).trans H84.out, HB4.setCell (p := ⟨g5, cc, none⟩) (HO54.out.lt g5 rfl).1 _⟩, by simp [intOf]; omega⟩
                · by_cases hj : j < cc
                  · exact Hfalse.out j h1 hj
                  · obtain rfl : j = cc := by omega
                    exact hbn
                · rw [setB_next _ _ _ hc1, List.map_set]
                  exact hst5.1
            · obtain rfl : cc = r.1 + r.2.1 := by omega
              obtain ⟨hov, hseen2⟩ := seen_miss HSEEN.out (fun x hx => by obtain ⟨y, hy, rfl⟩ := List.mem_map.1 hx; exact (Hrs2.out y hy).1.1) ok1 HL2.out (fun c h1 h2 => Hfalse.out c h1 h2)
              have Hst := Lib.hid (show newF [] l 0 = newF ((rs ++ [(r, q)]).map (·.1)) (l.drop (k + 1)) (k + 1) by rw [Hstep.out, hov]; simp)
              have Hseen2 := Lib.hid hseen2
              clear hfalse ho5 ho4 hrs2 hsg2 h82 hov hseen2
              go_wp2_with (first | (go_at_call 40; refine (hend _ _).mono ?_; rintro e w4 ⟨rfl, hb4⟩; have hz4 := hb4.size; have HB4 := (Hb.out).trans (hb4.mono (by omega)); have HO44 := Lib.hid (own_below Ho4.out hb4); have HO54 := Lib.hid (own_below Ho5.out hb4); have HRS4 := Lib.hid (Hrs2.out.below hb4); have HSG4 := Lib.hid ((Hsg2.out.below hb4).more hz4); have H84 := Lib.hid (heap_below H82.out hb4); have z0 := (cell_of_row _ _ 0 _ _ _ H84.out); have z1 := (cell_of_row _ _ 1 _ _ _ H84.out); have z2 := (cell_of_row _ _ 2 _ _ _ H84.out); have z3 := (cell_of_row _ _ 3 _ _ _ H84.out); simp at z0 z1 z2 z3) | (at_builtin; refine wpList_append_own _ rfl _ _ 22 rfl (w.heap.size + 2) 73 i0 _ 4 48 Tryd.underlying22 hi iz0 iz1 iz2 rfl (by decide) _ rs.length _ rfl (HO44.out.alloc _) ⟨w4.heap.size, 0, none⟩ 1 1 [.int .i64 (r.1 : Int), .int .i64 (r.2.1 : Int), .int .i32 r.2.2.1, .slice q.1 q.2.1 q.2.2] rfl rfl ?d1 ?d2 ?d3 ?d4 ?d5 ?_))
              case d1 => exact four_new w4 _ _ _ _ _
              case d2 => intro u hu; simp only [List.mem_cons, List.not_mem_nil, or_false] at hu; rcases hu with rfl | rfl | rfl | rfl <;> rfl
              case d3 => unfold maxLen; omega
              case d4 => omega
              case d5 => simp; omega
              intro v4' w5 hown6 hg6 h06
              have HO55 := Lib.hid ((HO54.out.alloc (.cells #[.int .i64 (r.1 : Int), .int .i64 (r.2.1 : Int), .int .i32 r.2.2.1, .slice q.1 q.2.1 q.2.2] 73)).kept hg6 (own_apart2 HO54.out HO44.out (by decide)))
              have HRS5 := Lib.hid ((HRS4.out.below ((Below.refl _ _).alloc (Nat.le_refl _) _)).grown (HO44.out.alloc (.cells #[.int .i64 (r.1 : Int), .int .i64 (r.2.1 : Int), .int .i32 r.2.2.1, .slice q.1 q.2.1 q.2.2] 73)) (by decide) hg6)
              have HSG5 := Lib.hid ((sg_grown ((HSG4.out.below ((Below.refl _ _).alloc (Nat.le_refl _) _)).more (by simp)) (HO44.out.alloc (.cells #[.int .i64 (r.1 : Int), .int .i64 (r.2.1 : Int), .int .i32 r.2.2.1, .slice q.1 q.2.1 q.2.2] 73)) (by decide) hg6 (Nat.le_refl _)).more hg6.size)
              have HB5 := below_grownOwn (HB4.alloc (by omega) (.cells #[.int .i64 (r.1 : Int), .int .i64 (r.2.1 : Int), .int .i32 r.2.2.1, .slice q.1 q.2.1 q.2.2] 73)) (HO44.out.alloc _) hg6 (by simp; omega) (Nat.le_refl _)
              have Hown6 := Lib.hid hown6
              clear hown6 hg6 h06
              go_wp2_with fail
              refine ⟨⟨k + 1, rs ++ [(r, q)], setB bits2 r.1 (r.1 + r.2.1), by omega, by simp, Hst.out, by simp; omega, ?_, ?_, ?_, by rw [setB_len]; exact HL3.out, ?_, HB5⟩, by simp [intOf]; omega⟩
              · have := Hown6.out
                simpa [rV, slV] using this
              · rw [setB_len]; exact HO55.out
              · have := Hseen2.out
                simpa using this
              · intro x hx
                rcases List.mem_append.1 hx with h | h
                · exact HRS5.out x h
                · simp only [List.mem_singleton] at h
                  subst h
                  exact ⟨hok, HSG5.out⟩
        · have hpos : ¬ (0 : Int) < (r.1 : Int) + r.2.1 - bits.length := by omega
          obtain ⟨g5, c5', hv5⟩ := own_some Hown5.out (by omega)
          injection hv5 with hA5 _ hc5'
          subst hA5
          subst hc5'
          have HSEEN := Hseen
          have HL2 := Lib.hid (show r.1 + r.2.1 ≤ bits.length by omega)
          have HL3 := Lib.hid hbl
          go_wp2_with (first | (go_at_call 44; refine (hpr1 _ (hT1 _)).mono ?_; rintro e w1 ⟨q, rfl, hsg, hb1⟩; have HB1 := (hb.alloc (by omega) _).trans (hb1.mono (by simp; omega)); have hz1 := sz_a1 hb1; have HRS1 := Lib.hid (Hrs.out.below (below_a1 hb1)); have HO41 := Lib.hid (own_below (Hown4.out.alloc _) hb1); have HO51 := Lib.hid (own_below (Hown5.out.alloc _) hb1); have Hsg := Lib.hid hsg; clear hsg) | (go_at_call 40; refine (hend _ _).mono ?_; rintro e w2 ⟨rfl, hb2⟩; have HB2 := (HB1.alloc (by omega) _).trans (hb2.mono (by simp; omega)); have hz2 := sz_a1 hb2; have HRS2 := Lib.hid (HRS1.out.below (below_a1 hb2)); have HO42 := Lib.hid (own_below (HO41.out.alloc _) hb2); have HO52 := Lib.hid (own_below (HO51.out.alloc _) hb2); have HSG2 := Lib.hid ((Hsg.out.below (below_a1 hb2)).more (Nat.le_of_succ_le hz2)); have H8 := Lib.hid (heap_below (heap_alloc_new w1 (.cells #[.int .i64 (r.1 : Int), .int .i64 (r.2.1 : Int), .int .i32 r.2.2.1, .slice q.1 q.2.1 q.2.2] 73)) hb2); obtain ⟨⟨x0, x1, x2, x3⟩, _⟩ := bx4 hb2))
          clear x0 x1 x2 x3
          go_loopw [11] (fun i wr2 => IwRel (w.heap.size + 2) (W2 w) r q rs u4 g5 c5 bits w1.heap.size i wr2) (fun i _ => r.1 + r.2.1 - (intOf i).toNat)
          case atStart => exact ⟨r.1, Nat.le_refl _, by omega, rfl, (fun j h1 h2 => by omega), by rw [setB_none]; exact HO52.out, HO42.out, HRS2.out, HSG2.out, H8.out, HB2⟩
          case round =>
            obtain ⟨cc, hc1, hc2, rfl, hfalse, ho5, ho4, hrs2, hsg2, h82, hbb⟩ := hrel
            have y0 := cell_of_row _ _ 0 _ _ _ h82
            have y1 := cell_of_row _ _ 1 _ _ _ h82
            have y2 := cell_of_row _ _ 2 _ _ _ h82
            have y3 := cell_of_row _ _ 3 _ _ _ h82
            simp at y0 y1 y2 y3
            have Hfalse := Lib.hid hfalse
            have Ho5 := Lib.hid ho5
            have Ho4 := Lib.hid ho4
            have Hrs2 := Lib.hid hrs2
            have Hsg2 := Lib.hid hsg2
            have H82 := Lib.hid h82
            have Hb := Lib.hid hbb
            have hg5 := (ho5.lt g5 rfl).2
            obtain ⟨_, _, hzb⟩ := nw_boxes hbb
            by_cases hcl : cc < r.1 + r.2.1
            · have hcb : cc < bits.length := by have := HL2.out; omega
              have hs5 := ho5.cellAt cc (by omega)
              rw [List.getElem?_map, setB_get _ _ _ _ hcb, decide_eq_false (Nat.lt_irrefl cc), Bool.and_false, Bool.or_false] at hs5
              simp only [Option.map_some] at hs5
              have hfz := ho5.frozenAt cc
              cases hbit : bits[cc] with
              | true =>
                have hov : ovl (rs.map (·.1)) r = true := seen_hit HSEEN.out ⟨hc1, hcl⟩ (by rw [List.getElem?_eq_getElem hcb, hbit])
                have Hst := Lib.hid (show newF [] l 0 = .inr k by rw [Hstep.out, if_pos hov])
                rw [hbit] at hs5
                clear hfalse ho5 ho4 hrs2 hsg2 h82 hov
                go_wp2_with (go_at_call 40; refine (hend _ _).mono ?_; rintro e w4 ⟨rfl, hb4⟩; have hz4 := hb4.size; have HB4 := (Hb.out).trans (hb4.mono (by omega)); have HO44 := Lib.hid (own_below Ho4.out hb4); have HO54 := Lib.hid (own_below Ho5.out hb4); have HRS4 := Lib.hid (Hrs2.out.below hb4); have HSG4 := Lib.hid ((Hsg2.out.below hb4).more hz4); have H84 := Lib.hid (heap_below H82.out hb4); have z0 := (cell_of_row _ _ 0 _ _ _ H84.out); have z1 := (cell_of_row _ _ 1 _ _ _ H84.out); have z2 := (cell_of_row _ _ 2 _ _ _ H84.out); have z3 := (cell_of_row _ _ 3 _ _ _ H84.out); simp at z0 z1 z2 z3; have s5 := (hb4.cell (p := ⟨g5, cc, none⟩) hg5).trans hs5; obtain ⟨⟨c0, c1, c2⟩, ⟨f0, f1, f2⟩, g0⟩ := nw_boxes HB4; have g1 : w.heap.size < w4.heap.size := (by omega))
                refine bodyPost_ret (v := .tuple #[.agg #[.slice none 0 0], .agg #[.int .i64 5, .int .i64 (k : Nat)]]) (by simp [results, Tryd.results25, go_sem, World.cell?_alloc_lt, g0, g1, c0, c1, c2]) rfl ?_
                exact HE.out k _ Hst.out ((((below_w2 HB4).setCell (Nat.le_refl _) _).setCell (by simp) _).setCell (by simp) _)
              | false =>
                rw [hbit] at hs5
                have hbn : bits[cc]? = some false := by rw [List.getElem?_eq_getElem hcb, hbit]
                clear hfalse ho5 ho4 hrs2 hsg2 h82
                go_wp2_with (go_at_call 40; refine (hend _ _).mono ?_; rintro e w4 ⟨rfl, hb4⟩; have hz4 := hb4.size; have HB4 := (Hb.out).trans (hb4.mono (by omega)); have HO44 := Lib.hid (own_below Ho4.out hb4); have HO54 := Lib.hid (own_below Ho5.out hb4); have HRS4 := Lib.hid (Hrs2.out.below hb4); have HSG4 := Lib.hid ((Hsg2.out.below hb4).more hz4); have H84 := Lib.hid (heap_below H82.out hb4); have z0 := (cell_of_row _ _ 0 _ _ _ H84.out); have z1 := (cell_of_row _ _ 1 _ _ _ H84.out); have z2 := (cell_of_row _ _ 2 _ _ _ H84.out); have z3 := (cell_of_row _ _ 3 _ _ _ H84.out); simp at z0 z1 z2 z3; have s5 := (hb4.cell (p := ⟨g5, cc, none⟩) hg5).trans hs5; have s6 := (hb4.frozen (p := ⟨g5, cc, none⟩) hg5).trans hfz; clear hs5 hfz)
                have hst5 := HO54.out.stored cc (.bool true)
                have hsg5 := set_grown (w := w4) (g := g5) (j := cc) (.bool true)
                have hlt8 := (Array.getElem?_eq_some_iff.1 H84.out).1
                refine ⟨⟨cc + 1, by omega, by omega, by simp, fun j h1 h2 => ?_, ?_, HO44.out.kept hsg5 (.inr (own_apart HO44.out HO54.out (by decide))), HRS4.out.grown HO54.out (by decide) hsg5, (sg_grown HSG4.out HO54.out (by decide) hsg5 (Nat.le_refl _)).more hsg5.size, (hsg5.block _ hlt8 (heap_ne HO54.out H84.out (by decide))).trans H84.out, HB4.setCell (p := ⟨g5, cc, none⟩) (HO54.out.lt g5 rfl).1 _⟩, by simp [intOf]; omega⟩
                · by_cases hj : j < cc
                  · exact Hfalse.out j h1 hj
                  · obtain rfl : j = cc := by omega
                    exact hbn
                · rw [setB_next _ _ _ hc1, List.map_set]
                  exact hst5.1
            · obtain rfl : cc = r.1 + r.2.1 := by omega
              obtain ⟨hov, hseen2⟩ := seen_miss HSEEN.out (fun x hx => by obtain ⟨y, hy, rfl⟩ := List.mem_map.1 hx; exact (Hrs2.out y hy).1.1) ok1 HL2.out (fun c h1 h2 => Hfalse.out c h1 h2)
              have Hst := Lib.hid (show newF [] l 0 = newF ((rs ++ [(r, q)]).map (·.1)) (l.drop (k + 1)) (k + 1) by rw [Hstep.out, hov]; simp)
              have Hseen2 := Lib.hid hseen2
              clear hfalse ho5 ho4 hrs2 hsg2 h82 hov hseen2
              go_wp2_with (first | (go_at_call 40; refine (hend _ _).mono ?_; rintro e w4 ⟨rfl, hb4⟩; have hz4 := hb4.size; have HB4 := (Hb.out).trans (hb4.mono (by omega)); have HO44 := Lib.hid (own_below Ho4.out hb4); have HO54 := Lib.hid (own_below Ho5.out hb4); have HRS4 := Lib.hid (Hrs2.out.below hb4); have HSG4 := Lib.hid ((Hsg2.out.below hb4).more hz4); have H84 := Lib.hid (heap_below H82.out hb4); have z0 := (cell_of_row _ _ 0 _ _ _ H84.out); have z1 := (cell_of_row _ _ 1 _ _ _ H84.out); have z2 := (cell_of_row _ _ 2 _ _ _ H84.out); have z3 := (cell_of_row _ _ 3 _ _ _ H84.out); simp at z0 z1 z2 z3) | (at_builtin; refine wpList_append_own _ rfl _ _ 22 rfl (w.heap.size + 2) 73 i0 _ 4 48 Tryd.underlying22 hi iz0 iz1 iz2 rfl (by decide) _ rs.length _ rfl (HO44.out.alloc _) ⟨w4.heap.size, 0, none⟩ 1 1 [.int .i64 (r.1 : Int), .int .i64 (r.2.1 : Int), .int .i32 r.2.2.1, .slice q.1 q.2.1 q.2.2] rfl rfl ?d1 ?d2 ?d3 ?d4 ?d5 ?_))
              case d1 => exact four_new w4 _ _ _ _ _
              case d2 => intro u hu; simp only [List.mem_cons, List.not_mem_nil, or_false] at hu; rcases hu with rfl | rfl | rfl | rfl <;> rfl
              case d3 => unfold maxLen; omega
              case d4 => omega
              case d5 => simp; omega
              intro v4' w5 hown6 hg6 h06
              have HO55 := Lib.hid ((HO54.out.alloc (.cells #[.int .i64 (r.1 : Int), .int .i64 (r.2.1 : Int), .int .i32 r.2.2.1, .slice q.1 q.2.1 q.2.2] 73)).kept hg6 (own_apart2 HO54.out HO44.out (by decide)))
              have HRS5 := Lib.hid ((HRS4.out.below ((Below.refl _ _).alloc (Nat.le_refl _) _)).grown (HO44.out.alloc (.cells #[.int .i64 (r.1 : Int), .int .i64 (r.2.1 : Int), .int .i32 r.2.2.1, .slice q.1 q.2.1 q.2.2] 73)) (by decide) hg6)
              have HSG5 := Lib.hid ((sg_grown ((HSG4.out.below ((Below.refl _ _).alloc (Nat.le_refl _) _)).more (by simp)) (HO44.out.alloc (.cells #[.int .i64 (r.1 : Int), .int .i64 (r.2.1 : Int), .int .i32 r.2.2.1, .slice q.1 q.2.1 q.2.2] 73)) (by decide) hg6 (Nat.le_refl _)).more hg6.size)
              have HB5 := below_grownOwn (HB4.alloc (by omega) (.cells #[.int .i64 (r.1 : Int), .int .i64 (r.2.1 : Int), .int .i32 r.2.2.1, .slice q.1 q.2.1 q.2.2] 73)) (HO44.out.alloc _) hg6 (by simp; omega) (Nat.le_refl _)
              have Hown6 := Lib.hid hown6
              clear hown6 hg6 h06
              go_wp2_with fail
              refine ⟨⟨k + 1, rs ++ [(r, q)], setB bits r.1 (r.1 + r.2.1), by omega, by simp, Hst.out, by simp; omega, ?_, ?_, ?_, by rw [setB_len]; exact HL3.out, ?_, HB5⟩, by simp [intOf]; omega⟩
              · have := Hown6.out
                simpa [rV, slV] using this
              · rw [setB_len]; exact HO55.out
              · have := Hseen2.out
                simpa using this
              · intro x hx
                rcases List.mem_append.1 hx with h | h
                · exact HRS5.out x h
                · simp only [List.mem_singleton] at h
                  subst h
                  exact ⟨hok, HSG5.out⟩
    · have hk2 : k = l.length := by omega
      subst hk2
      have Hn := Lib.hid (show newF [] l 0 = .inl (rs.map (·.1)) by rw [hnf, List.drop_of_length_le (Nat.le_refl _)]; rfl)
      obtain ⟨A4, c4, hv4, hc4, _⟩ := Reads.of_own hown4
      subst hv4
      have hbf := ByFrom_any (w.heap.size + 2) (.slice A4 rs.length c4) rs wr hown4 (by omega) (by omega)
      have Hlt4 := Lib.hid (show ∀ ad, A4 = some ad → w.heap.size + 2 ≤ ad.block from fun ad h => (hown4.lt ad.block (by rw [h]; rfl)).1)
      have Hrs := Lib.hid hrs
      have Hown4 := Lib.hid hown4
      clear hnf hown4 hown5 hseen hrs
      go_wp2_with (go_at_call 45; refine hbf.mono ?_; rintro e w9 ⟨rfl, A5, c5, rs', hv5, hc5, hperm, hsort, hrd, hbb, hgr9⟩; have HB9 := hb.trans hbb; obtain ⟨⟨c0, c1, c2⟩, ⟨f0, f1, f2⟩, g0⟩ := nw_boxes HB9; injection hv5 with hA5 _ hcc5; subst hA5; subst hcc5; have Hperm := Lib.hid hperm; have Hsort := Lib.hid hsort; have Hrd := Lib.hid hrd; clear hperm hsort hrd)
      obtain ⟨n1, n2⟩ := nw_heap HB9
      have hlen : rs'.length = rs.length := Hperm.out.length_eq
      have hrs9 : RsOk w9 rs' := fun x hx => Hrs.out.grown Hown4.out (by decide) hgr9 x (Hperm.out.mem_iff.1 hx)
      have hf := HO.out A4 c4 rs' (((w9.setCell ⟨w.heap.size, 0, none⟩ (.slice A4 rs.length c4)).setCell ⟨w.heap.size + 1, 0, none⟩ (.int .i64 0)).setCell ⟨w.heap.size + 1, 1, none⟩ (.int .i64 0)) ⟨rs, Hn.out, Hperm.out, Hsort.out⟩ (by omega) (Hrd.out.set3 Hlt4.out (by omega) (by omega) _ _ _) (hrs9.set3 _ _ _ n1 n2 (by decide) (by decide)) ((((below_w2 HB9).setCell (Nat.le_refl _) _).setCell (by simp) _).setCell (by simp) _)
      rw [hlen] at hf
      refine bodyPost_ret (v := .tuple #[.agg #[.slice A4 rs.length c4], .agg #[.int .i64 0, .int .i64 0]]) (by simp [results, Tryd.results25, go_sem, c0, c1, c2]) rfl ?_
      exact hf
end Go.Proofs.YtpnjandlpbjddabDoor

/- Contracts of a table's Size and Reverse; condition: the table's rows stand by rising codes. -/
set_option maxRecDepth 100000
set_option maxHeartbeats 2000000
namespace Go.Proofs.YtpnjandlpbjddabDoor
open Go Go.RowKit

/-- A table's rows, as they lie below a block. -/
def TbR (w : World) (B : Nat) (A : Option Addr) (rs : List (Rw × Sl)) : Prop := RdsR w B A rs ∧ (∀ x ∈ rs, RwOk x.1 ∧ SgOk w B x) ∧ RowsOk (rs.map (·.1))
theorem TbR.below {w w' : World} {B : Nat} {A : Option Addr} {rs : List (Rw × Sl)} (h : TbR w B A rs) (hb : Below B w w') : TbR w' B A rs := by
  obtain ⟨⟨h1, h2⟩, h3, h4⟩ := h
  exact ⟨⟨h1.below hb, h2⟩, fun x hx => ⟨(h3 x hx).1, (h3 x hx).2.below hb⟩, h4⟩
theorem TbR.more {w : World} {B B' : Nat} {A : Option Addr} {rs : List (Rw × Sl)} (h : TbR w B A rs) (hb : B ≤ B') : TbR w B' A rs := by
  obtain ⟨⟨h1, h2⟩, h3, h4⟩ := h
  exact ⟨⟨h1.more hb, h2⟩, fun x hx => ⟨(h3 x hx).1, (h3 x hx).2.more hb⟩, h4⟩
theorem add_more (ad : Addr) (k i : Nat) (hi : i ≠ 0) : ad.add (k + i) = ⟨(ad.add k).block, (ad.add k).off + i, none⟩ := by
  rw [← addr_add]
  show (if i = 0 then _ else _) = _
  rw [if_neg hi]
theorem TbR.row {w : World} {B : Nat} {A : Option Addr} {rs : List (Rw × Sl)} (h : TbR w B A rs) {k : Nat} {x : Rw × Sl} (hk : rs[k]? = some x) :
    ∃ ad, A = some ad ∧ ad.block < B ∧ w.cell? (ad.add (k * 4)) = some (.int .i64 (x.1.1 : Int)) ∧ w.cell? ⟨(ad.add (k * 4)).block, (ad.add (k * 4)).off + 1, none⟩ = some (.int .i64 (x.1.2.1 : Int)) ∧
      w.cell? ⟨(ad.add (k * 4)).block, (ad.add (k * 4)).off + 2, none⟩ = some (.int .i32 x.1.2.2.1) ∧ w.cell? ⟨(ad.add (k * 4)).block, (ad.add (k * 4)).off + 3, none⟩ = some (.slice x.2.1 x.2.2.1 x.2.2.2) ∧ RwOk x.1 ∧ SgOk w B x ∧ x ∈ rs := by
  obtain ⟨⟨⟨_, h1⟩, _⟩, h3, _⟩ := h
  have hlt : k < rs.length := by
    rcases Nat.lt_or_ge k rs.length with h | h
    · exact h
    · rw [List.getElem?_eq_none h] at hk; cases hk
  obtain ⟨ad, hA, hb, hc⟩ := h1 (by omega)
  have hx := List.mem_of_getElem? hk
  have hg : ∀ i u, (rV x)[i]? = some u → i < 4 → w.cell? (ad.add (k * 4 + i)) = some u := fun i u hu hi => hc _ _ ((flat4_at rV rV_len rs k i x hk hi).trans hu)
  have g0 := hg 0 _ rfl (by omega)
  have g1 := hg 1 _ rfl (by omega)
  have g2 := hg 2 _ rfl (by omega)
  have g3 := hg 3 _ rfl (by omega)
  rw [Nat.add_zero] at g0
  rw [add_more _ _ _ (by omega)] at g1 g2 g3
  exact ⟨ad, hA, hb, g0, g1, g2, g3, (h3 x hx).1, (h3 x hx).2, hx⟩
def szR (rs : List (Rw × Sl)) : Nat := (rs.map fun x : Rw × Sl => x.1.2.1).sum
theorem szR_snoc (rs : List (Rw × Sl)) (k : Nat) (x : Rw × Sl) (h : rs[k]? = some x) : szR (rs.take (k + 1)) = szR (rs.take k) + x.1.2.1 := by
  unfold szR
  rw [List.take_add_one, h]
  simp
theorem sum_le : ∀ (rs : List (Rw × Sl)) (lo : Nat), lo ≤ 1048576 → (∀ x ∈ rs, lo ≤ x.1.1) → (rs.map (·.1)).Pairwise (fun a b => a.1 + a.2.1 ≤ b.1) → (∀ x ∈ rs, x.1.1 + x.1.2.1 ≤ 1048576) → lo + szR rs ≤ 1048576
  | [], lo, h, _, _, _ => by simpa [szR] using h
  | x :: rs, lo, h, h1, h2, h3 => by
    rw [List.map_cons, List.pairwise_cons] at h2
    have h4 := h3 x (by simp)
    have h5 := h1 x (by simp)
    have := sum_le rs (x.1.1 + x.1.2.1) h4 (fun y hy => h2.1 _ (List.mem_map_of_mem hy)) h2.2 (fun y hy => h3 y (by simp [hy]))
    have e : szR (x :: rs) = x.1.2.1 + szR rs := by simp [szR]
    omega
theorem TbR.total {w : World} {B : Nat} {A : Option Addr} {rs : List (Rw × Sl)} (h : TbR w B A rs) : szR rs ≤ 1048576 := by
  have := sum_le rs 0 (by omega) (fun _ _ => Nat.zero_le _) h.2.2.1 (fun x hx => (h.2.1 x hx).1.2.1)
  omega
theorem szR_take (rs : List (Rw × Sl)) (k : Nat) : szR (rs.take k) ≤ szR rs := by
  unfold szR
  conv => rhs; rw [← List.take_append_drop k rs]
  rw [List.map_append, List.sum_append]; omega
theorem szR_len (rs : List (Rw × Sl)) : ((rs.map (·.1)).flatMap prs).length = szR rs := by
  unfold szR
  induction rs with
  | nil => rfl
  | cons x rs ih => rw [List.map_cons, List.flatMap_cons, List.length_append, prs_len, ih]; simp
def SzRel (rs : List (Rw × Sl)) (w0 : World) (v i : Value) (wr : World) : Prop := ∃ k : Nat, k ≤ rs.length ∧ i = .int .i64 k ∧ v = .int .i64 (szR (rs.take k) : Nat) ∧ Below w0.heap.size w0 wr
theorem Size_any (A : Option Addr) (c : Nat) (rs : List (Rw × Sl)) (hn : rs.length ≤ 35184372089000) (w : World) (h : TbR w w.heap.size A rs) :
    Calls Tryd.prog 39 #[.agg #[.slice A rs.length c]] w fun e w' => e = .returned (.int .i64 (szR rs : Nat)) ∧ Below w.heap.size w w' := by
  have htot := h.total
  go_enter Tryd.func39, Tryd.ntmps39
  go_wp2_with fail
  go_loopw [3, 9] (fun v i wr => SzRel rs w v i wr) (fun _ i _ => rs.length - (intOf i).toNat)
  case atStart => exact ⟨0, by omega, rfl, rfl, (Below.refl _ w).alloc (Nat.le_refl _) _⟩
  case round =>
    obtain ⟨k, hk, rfl, rfl, hb⟩ := hrel
    by_cases hlt : k < rs.length
    · obtain ⟨x, hx⟩ : ∃ x, rs[k]? = some x := ⟨_, List.getElem?_eq_getElem hlt⟩
      obtain ⟨ad, rfl, hadb, y0, y1, y2, y3, hok, _, _⟩ := (h.below hb).row hx
      have hz := hb.size
      have hs := szR_snoc rs k x hx
      have hle := szR_take rs (k + 1)
      have e1 : IntKind.i64.wrap ((szR (rs.take k) : Nat) + (x.1.2.1 : Int)) = ((szR (rs.take (k + 1)) : Nat) : Int) := by rw [hs, IntWalk.i64_in _ (by omega)]; simp
      clear hs
      generalize hq : szR (rs.take (k + 1)) = s' at e1
      have Hq := Lib.hid hq
      clear hq hle
      generalize szR (rs.take k) = s at *
      go_wp2_with fail
      go_roundw
      case rel => exact ⟨k + 1, by omega, by simp, by rw [Hq.out], hb.alloc (by omega) _⟩
      case measure => simp [intOf]; omega
    · obtain rfl : k = rs.length := by omega
      rw [List.take_length]
      go_wp2_with fail
      go_ret
      exact ⟨rfl, hb⟩
def revR (rs : List Rw) (p : Int) : Option Nat := rs.findSome? fun r => lst r p
theorem revR_eq (rs : List Rw) (p : Int) : revR rs p = ((rs.flatMap prs).find? fun x => x.2 == p).map (·.1) := by
  unfold revR lst
  rw [List.find?_flatMap]
  induction rs with
  | nil => rfl
  | cons r rs ih =>
    rw [List.findSome?_cons, List.findSome?_cons]
    cases (prs r).find? fun x => x.2 == p with
    | none => simpa using ih
    | some x => rfl
def RvRel (rs : List (Rw × Sl)) (p : Int) (w0 : World) (i : Value) (wr : World) : Prop := ∃ k : Nat, k ≤ rs.length ∧ i = .int .i64 k ∧ revR (rs.map (·.1)) p = revR ((rs.drop k).map (·.1)) p ∧ Below w0.heap.size w0 wr
theorem Reverse_any (A : Option Addr) (c : Nat) (rs : List (Rw × Sl)) (p : Int) (hp : -2147483648 ≤ p ∧ p < 2147483648) (hn : rs.length ≤ 35184372089000) (w : World) (h : TbR w w.heap.size A rs) :
    Calls Tryd.prog 60 #[.agg #[.slice A rs.length c], .int .i32 p] w fun e w' => e = .returned (.tuple #[.int .i64 ((revR (rs.map (·.1)) p).getD 0 : Nat), .bool (revR (rs.map (·.1)) p).isSome]) ∧ Below w.heap.size w w' := by
  go_enter Tryd.func60, Tryd.ntmps60
  go_wp2_with fail
  go_loopw [13] (fun i wr => RvRel rs p w i wr) (fun i _ => rs.length - (intOf i).toNat)
  case atStart => exact ⟨0, by omega, rfl, by simp, (Below.refl _ w).alloc (Nat.le_refl _) _⟩
  case round =>
    obtain ⟨k, hk, rfl, hrv, hb⟩ := hrel
    have hz := hb.size
    by_cases hlt : k < rs.length
    · obtain ⟨x, hx⟩ : ∃ x, rs[k]? = some x := ⟨_, List.getElem?_eq_getElem hlt⟩
      obtain ⟨ad, rfl, hadb, y0, y1, y2, y3, hok, hsg, _⟩ := (h.below hb).row hx
      have hdk : rs.drop k = x :: rs.drop (k + 1) := by
        obtain ⟨h1, h2⟩ := List.getElem?_eq_some_iff.1 hx
        rw [List.drop_eq_getElem_cons h1, h2]
      rw [hdk, List.map_cons] at hrv
      unfold revR at hrv
      rw [List.findSome?_cons] at hrv
      have hcd := fun (o : Obj) => Code_any x p hp hok (wr.alloc o) (((hsg.more hz).below ((Below.refl _ _).alloc (Nat.le_refl _) o)).more (by simp))
      unfold CdPost rV slV at hcd
      cases hl : lst x.1 p with
      | none =>
        rw [hl] at hrv hcd
        have Hrv := Lib.hid hrv
        clear hrv hdk hl
        go_wp2_with (go_at_call 92; refine (hcd _).mono ?_; rintro e w1 ⟨z, rfl, _, hb1⟩)
        go_roundw
        case rel => exact ⟨k + 1, by omega, by simp, Hrv.out, hb.trans ((below_a1 hb1).mono (by omega))⟩
        case measure => simp [intOf]; omega
      | some v =>
        rw [hl] at hrv hcd
        have Hrv := Lib.hid (show revR (rs.map (·.1)) p = some v from hrv)
        clear hrv hdk hl
        go_wp2_with (go_at_call 92; refine (hcd _).mono ?_; rintro e w1 ⟨z, rfl, hz2, hb1⟩; obtain rfl := hz2 v rfl)
        go_ret2
        rw [Hrv.out]
        exact ⟨rfl, hb.trans ((below_a1 hb1).mono (by omega))⟩
    · obtain rfl : k = rs.length := by omega
      rw [List.drop_length] at hrv
      have Hrv := Lib.hid (show revR (rs.map (·.1)) p = none from hrv)
      clear hrv
      go_wp2_with fail
      go_ret2
      rw [Hrv.out]
      exact ⟨rfl, hb⟩
end Go.Proofs.YtpnjandlpbjddabDoor

/- Contract of a table's Pairs; condition: the table's rows stand by rising codes. -/
set_option maxRecDepth 100000
set_option maxHeartbeats 4000000
namespace Go.Proofs.YtpnjandlpbjddabDoor
open Go Go.RowKit

theorem pair_info : (Tryd.prog.info? 43).map (fun i => (i.zero, i.size, i.bytes)) = some (some (.agg #[.int .i64 0, .int .i32 0]), 2, 16) := by kernel_rfl
def prV (x : Pr) : List Value := [.int .i64 (x.1 : Int), .int .i32 x.2]
theorem flat2_len (l : List Pr) : (l.flatMap prV).length = l.length * 2 := by
  induction l with
  | nil => rfl
  | cons a l ih => rw [List.flatMap_cons, List.length_append, ih, List.length_cons]; simp [prV]; omega
def upTo (rs : List (Rw × Sl)) (k : Nat) : List Pr := ((rs.take k).map (·.1)).flatMap prs
theorem upTo_len (rs : List (Rw × Sl)) (k : Nat) : (upTo rs k).length = szR (rs.take k) := szR_len _
theorem upTo_snoc (rs : List (Rw × Sl)) (k : Nat) (x : Rw × Sl) (h : rs[k]? = some x) : upTo rs (k + 1) = upTo rs k ++ prs x.1 := by
  unfold upTo
  rw [List.take_add_one, h]
  simp
theorem prs_take (r : Rw) (j : Nat) (h : j < r.2.1) : (prs r).take (j + 1) = (prs r).take j ++ [(r.1 + j, sgAt r j)] := by
  have : (prs r)[j]? = some (r.1 + j, sgAt r j) := by
    unfold prs
    rw [List.getElem?_map, List.getElem?_range h]; rfl
  rw [List.take_add_one, this]; rfl
def PaRel (rs : List (Rw × Sl)) (w0 : World) (v i : Value) (wr : World) : Prop := ∃ k : Nat, k ≤ rs.length ∧ i = .int .i64 k ∧ wr.ownsRow w0.heap.size 43 2 v (upTo rs k).length ((upTo rs k).flatMap prV) ∧ Below w0.heap.size w0 wr
def PiRel (L : List Pr) (x : Rw × Sl) (B5 : Nat) (w0 : World) (v c : Value) (wr : World) : Prop := ∃ j : Nat, j ≤ x.1.2.1 ∧ c = .int .i64 ((x.1.1 + j : Nat) : Int) ∧ wr.ownsRow w0.heap.size 43 2 v (L ++ (prs x.1).take j).length ((L ++ (prs x.1).take j).flatMap prV) ∧
  wr.heap[B5]? = some (.cells #[.int .i64 (x.1.1 : Int), .int .i64 (x.1.2.1 : Int), .int .i32 x.1.2.2.1, .slice x.2.1 x.2.2.1 x.2.2.2] 73 (0, 0)) ∧ Below w0.heap.size w0 wr
def PaPost (L : List Pr) (w0 : World) (e : Ending) (w' : World) : Prop := ∃ A c, e = .returned (.slice A L.length c) ∧ L.length ≤ c ∧ Reads w' w'.heap.size 2 A L.length (L.flatMap prV) ∧ Below w0.heap.size w0 w'
theorem two_new2 (w : World) (a b : Value) (T : TypeId) : ∀ j u, [a, b][j]? = some u → (w.alloc (.cells #[a, b] T)).cell? ((⟨w.heap.size, 0, none⟩ : Addr).add j) = some u := by
  intro j u hu
  rw [addr_eq rfl]
  show (w.alloc _).cell? ⟨w.heap.size, 0 + j, none⟩ = _
  rw [Nat.zero_add, cell_of_row _ w.heap.size j _ T (0, 0) (heap_alloc_new w _)]
  simpa using hu
def PoPost (L : List Pr) (w0 : World) (e : Ending) (w' : World) : Prop := ∃ v, e = .returned v ∧ w'.ownsRow w0.heap.size 43 2 v L.length (L.flatMap prV) ∧ Below w0.heap.size w0 w'
theorem Pairs_own (A : Option Addr) (c : Nat) (rs : List (Rw × Sl)) (hn : rs.length ≤ 35184372089000) (w : World) (h : TbR w w.heap.size A rs) :
    Calls Tryd.prog 21 #[.agg #[.slice A rs.length c]] w (PoPost ((rs.map (·.1)).flatMap prs) w) := by
  have htot := h.total
  have hszs := fun o => Size_any A c rs hn (w.alloc o) ((h.below ((Below.refl _ _).alloc (Nat.le_refl _) o)).more (by simp))
  obtain ⟨i0, hi, iz0, iz1, iz2⟩ := info_parts pair_info
  have hall : upTo rs rs.length = (rs.map (·.1)).flatMap prs := by unfold upTo; rw [List.take_length]
  generalize hP : PoPost ((rs.map (·.1)).flatMap prs) w = P at *
  go_enter Tryd.func21, Tryd.ntmps21
  go_wp2_with (first | (go_at_call 39; refine (hszs _).mono ?_; rintro e w1 ⟨rfl, hb1⟩; have HB1 := below_a1 hb1; have hz1 := sz_a1 hb1; have q1 := heap_below (heap_alloc_new w (.cells #[.slice A rs.length c] 24)) hb1; have q2 := cell_of_row _ _ 0 _ _ _ q1; simp at q2) | (at_make; refine wpList_make_own _ rfl _ _ 39 rfl w.heap.size 43 i0 (.agg #[.int .i64 0, .int .i32 0]) 2 Tryd.underlying39 hi iz0 iz1 .i64 .i64 _ (szR rs) rfl rfl rfl (by rw [iz2]; omega) (by unfold maxLen; omega) (by omega) ?_; intro w3 hown hgrow; have hz3 := hgrow.size; have q3 := (hgrow.block w.heap.size (by omega) (by simp)).trans q1; have q4 := cell_of_row _ _ 0 _ _ _ q3; simp at q4; have HB3 := HB1.grown hgrow (by omega) (fun k hk => by cases hk)))
  clear q1 q2 q3 q4 hszs hb1 hgrow
  go_loopw [3, 13] (fun v i wr => PaRel rs w v i wr) (fun _ i _ => rs.length - (intOf i).toNat)
  case atStart => exact ⟨0, by omega, rfl, hown, HB3⟩
  case round =>
    obtain ⟨k, hk, rfl, ho, hb⟩ := hrel
    have hz := hb.size
    by_cases hlt : k < rs.length
    · obtain ⟨x, hx⟩ : ∃ x, rs[k]? = some x := ⟨_, List.getElem?_eq_getElem hlt⟩
      obtain ⟨ad, rfl, hadb, y0, y1, y2, y3, hok, hsg, _⟩ := (h.below hb).row hx
      have hsn := upTo_snoc rs k x hx
      have hlen : (upTo rs k).length + x.1.2.1 ≤ 1048576 := by
        have := congrArg List.length hsn
        rw [List.length_append, prs_len, upTo_len rs (k + 1)] at this
        have := szR_take rs (k + 1)
        omega
      have Ho := Lib.hid ho
      have Hsn := Lib.hid hsn
      clear ho hsn
      go_wp2_with fail
      clear hall
      have hsgw := (h.2.1 x (List.mem_of_getElem? hx)).2
      have hend := fun v W => End_any x.1.1 x.1.2.1 x.1.2.2.1 v hok.2.1 W
      have ok1 := hok.1
      have ok2 := hok.2.1
      clear y0 y1 y2 y3
      go_loopw [3, 6] (fun v c2 wr2 => PiRel (upTo rs k) x wr.heap.size w v c2 wr2) (fun _ c2 _ => x.1.1 + x.1.2.1 - (intOf c2).toNat)
      case atStart => exact ⟨0, by omega, by simp, by simpa using Ho.out.alloc _, heap_alloc_new wr _, hb.alloc (by omega) _⟩
      case round =>
        obtain ⟨j, hj, rfl, ho2, h5, hb2⟩ := hrel
        have hz2 := hb2.size
        have y0 := cell_of_row _ _ 0 _ _ _ h5
        have y1 := cell_of_row _ _ 1 _ _ _ h5
        have y2 := cell_of_row _ _ 2 _ _ _ h5
        have y3 := cell_of_row _ _ 3 _ _ _ h5
        simp at y0 y1 y2 y3
        have Ho2 := Lib.hid ho2
        have H5 := Lib.hid h5
        have hl5 := (Array.getElem?_eq_some_iff.1 h5).1
        by_cases hjn : j < x.1.2.1
        · have hln : (upTo rs k ++ (prs x.1).take j).length = (upTo rs k).length + j := by rw [List.length_append, List.length_take, prs_len]; omega
          have hsi := fun W (hB : Below w.heap.size w W) => RwSg_any x (x.1.1 + j) hok ⟨by omega, by omega⟩ W ((hsgw.below hB).more hB.size)
          unfold rV slV at hsi
          rw [show x.1.1 + j - x.1.1 = j by omega] at hsi
          have Hln := Lib.hid hln
          have hnx := prs_take x.1 j hjn
          have Hnx := Lib.hid hnx
          generalize sgAt x.1 j = sg at *
          clear ho2 h5 hln hnx
          go_wp2_with (first | (go_at_call 40; refine (hend _ _).mono ?_; rintro e w4 ⟨rfl, hb4⟩; have hz4 := hb4.size; have HB4 := hb2.trans (hb4.mono (by omega)); have HO4 := Lib.hid (own_below Ho2.out hb4); have H54 := Lib.hid (heap_below H5.out hb4); have z0 := (cell_of_row _ _ 0 _ _ _ H54.out); have z1 := (cell_of_row _ _ 1 _ _ _ H54.out); have z2 := (cell_of_row _ _ 2 _ _ _ H54.out); have z3 := (cell_of_row _ _ 3 _ _ _ H54.out); simp at z0 z1 z2 z3) | (go_at_call 41; refine (hsi _ HB4).mono ?_; rintro e w5 ⟨rfl, hb5⟩; have hz5 := hb5.size; have HB5 := HB4.trans (hb5.mono (by omega)); have HO5 := Lib.hid (own_below HO4.out hb5); have H55 := Lib.hid (heap_below H54.out hb5)) | (at_builtin; refine wpList_append_own _ rfl _ _ 39 rfl w.heap.size 43 i0 _ 2 16 Tryd.underlying39 hi iz0 iz1 iz2 rfl (by decide) _ _ _ rfl (HO5.out.alloc _) ⟨w5.heap.size, 0, none⟩ 1 1 [.int .i64 ((x.1.1 : Int) + j), .int .i32 sg] rfl rfl ?d1 ?d2 ?d3 ?d4 ?d5 ?_))
          case d1 => exact two_new2 w5 _ _ _
          case d2 => intro u hu; simp only [List.mem_cons, List.not_mem_nil, or_false] at hu; rcases hu with rfl | rfl <;> rfl
          case d3 => have := Hln.out; unfold maxLen; omega
          case d4 => have := Hln.out; omega
          case d5 => simp; omega
          intro v6 w6 hown6 hg6 h06
          have HB6 := below_grownOwn (HB5.alloc (by omega) (.cells #[.int .i64 ((x.1.1 : Int) + j), .int .i32 sg] 43)) (HO5.out.alloc _) hg6 (by simp; omega) (Nat.le_refl _)
          have hl6 := (Array.getElem?_eq_some_iff.1 H55.out).1
          have h55 := (Below.heap_alloc w5 (.cells #[.int .i64 ((x.1.1 : Int) + j), .int .i32 sg] 43) _ hl6).trans H55.out
          have H56 := Lib.hid ((hg6.block _ (by simp; omega) (heap_ne (HO5.out.alloc _) h55 (by decide))).trans h55)
          clear h55
          have Hown6 := Lib.hid hown6
          clear hown6 hg6 h06
          go_wp2_with fail
          refine ⟨⟨j + 1, by omega, by simp; omega, ?_, H56.out, HB6⟩, by simp [intOf]; omega⟩
          have := Hown6.out
          rw [Hnx.out, ← List.append_assoc, List.flatMap_append, List.length_append]
          simpa [prV] using this
        · obtain rfl : j = x.1.2.1 := by omega
          rw [List.take_of_length_le (by rw [prs_len]; omega), ← Hsn.out] at ho2
          have Ho3 := Lib.hid ho2
          clear ho2 h5
          go_wp2_with (go_at_call 40; refine (hend _ _).mono ?_; rintro e w4 ⟨rfl, hb4⟩; have hz4 := hb4.size; have HB4 := hb2.trans (hb4.mono (by omega)); have H54 := Lib.hid (heap_below H5.out hb4); have z0 := (cell_of_row _ _ 0 _ _ _ H54.out); have z1 := (cell_of_row _ _ 1 _ _ _ H54.out); have z2 := (cell_of_row _ _ 2 _ _ _ H54.out); have z3 := (cell_of_row _ _ 3 _ _ _ H54.out); simp at z0 z1 z2 z3)
          refine ⟨⟨k + 1, by omega, by simp, own_below Ho3.out hb4, HB4⟩, by simp [intOf]; omega⟩
    · obtain rfl : k = rs.length := by omega
      rw [hall] at ho
      obtain ⟨A3, c3, rfl, hc3, hr3⟩ := Reads.of_own ho
      have Hr3 := Lib.hid ho
      clear ho hr3
      go_wp2_with fail
      show P (.returned (.slice A3 ((rs.map (·.1)).flatMap prs).length c3)) wr
      rw [← hP]
      exact ⟨_, rfl, Hr3.out, hb⟩
theorem Pairs_any (A : Option Addr) (c : Nat) (rs : List (Rw × Sl)) (hn : rs.length ≤ 35184372089000) (w : World) (h : TbR w w.heap.size A rs) :
    Calls Tryd.prog 21 #[.agg #[.slice A rs.length c]] w (PaPost ((rs.map (·.1)).flatMap prs) w) :=
  (Pairs_own A c rs hn w h).mono fun e w' ⟨v, h1, h2, h3⟩ => by
    obtain ⟨A3, c3, rfl, h4, h5⟩ := Reads.of_own h2
    exact ⟨A3, c3, h1, h4, h5, h3⟩
end Go.Proofs.YtpnjandlpbjddabDoor

/- Contract of a table's Forward; condition: the table's rows stand by rising codes. -/
set_option maxRecDepth 100000
set_option maxHeartbeats 4000000
namespace Go.Proofs.YtpnjandlpbjddabDoor
open Go Go.RowKit

theorem bch {w w1 w2 : World} (h1 : Below w.heap.size w w1) (h2 : Below w1.heap.size w1 w2) : Below w.heap.size w w2 := h1.trans (h2.mono h1.size)
/-- What the search's closure reads: the code, the table. -/
def Capt (W : World) (b3 b2 : Nat) (code : Int) (A : Option Addr) (n c : Nat) : Prop := W.cell? ⟨b3, 0, none⟩ = some (.int .i64 code) ∧ W.cell? ⟨b2, 0, none⟩ = some (.slice A n c)
/-- What the regions read, whatever was laid behind it. -/
def FwS (W : World) (b3 b2 : Nat) (code : Int) (ad : Addr) (n c k : Nat) (x : Rw × Sl) (W' : World) : Prop := (W'.cell? ⟨b3, 0, none⟩ = some (.int .i64 code) ∧ W'.cell? ⟨b2, 0, none⟩ = some (.slice (some ad) n c) ∧ W'.cell? (ad.add (k * 4)) = some (.int .i64 (x.1.1 : Int)) ∧ W'.cell? ⟨(ad.add (k * 4)).block, (ad.add (k * 4)).off + 1, none⟩ = some (.int .i64 (x.1.2.1 : Int)) ∧
  W'.cell? ⟨(ad.add (k * 4)).block, (ad.add (k * 4)).off + 2, none⟩ = some (.int .i32 x.1.2.2.1) ∧ W'.cell? ⟨(ad.add (k * 4)).block, (ad.add (k * 4)).off + 3, none⟩ = some (.slice x.2.1 x.2.2.1 x.2.2.2)) ∧ Below W.heap.size W W'
theorem FwS.keep {W : World} {b3 b2 : Nat} {code : Int} {ad : Addr} {n c k : Nat} {x : Rw × Sl} {W' W'' : World} (h : FwS W b3 b2 code ad n c k x W') (hb : Below W'.heap.size W' W'') : FwS W b3 b2 code ad n c k x W'' := by
  obtain ⟨⟨h1, h2, h3, h4, h5, h6⟩, h7⟩ := h
  have hk : ∀ {a : Addr} {v : Value}, W'.cell? a = some v → W''.cell? a = some v := fun {a v} e => (hb.cell (World.block_lt_of_cell? _ _ e)).trans e
  exact ⟨⟨hk h1, hk h2, hk h3, hk h4, hk h5, hk h6⟩, bch h7 hb⟩
theorem Fwd1_any (b3 b2 : Nat) (code : Int) (A : Option Addr) (c : Nat) (rs : List (Rw × Sl)) (B k : Nat) (x : Rw × Sl) (W : World) (hc : Capt W b3 b2 code A rs.length c) (h : TbR W B A rs) (hk : rs[k]? = some x) :
    Calls Tryd.prog 94 #[.int .i64 (k : Int), .pointer (some ⟨b3, 0, none⟩), .pointer (some ⟨b2, 0, none⟩)] W fun e w' => e = .returned (.bool (decide (code < (x.1.1 : Int) + x.1.2.1))) ∧ Below W.heap.size W w' := by
  obtain ⟨c3, c2⟩ := hc
  have hlt : k < rs.length := by
    rcases Nat.lt_or_ge k rs.length with h | h
    · exact h
    · rw [List.getElem?_eq_none h] at hk; cases hk
  obtain ⟨ad, rfl, hadb, y0, y1, y2, y3, hok, _, _⟩ := h.row hk
  have hend := fun v W => End_any x.1.1 x.1.2.1 x.1.2.2.1 v hok.2.1 W
  go_enter Tryd.func94, Tryd.ntmps94
  go_wp2_with fail
  have hS0 : FwS W b3 b2 code ad rs.length c k x W.drew := ⟨⟨c3, c2, y0, y1, y2, y3⟩, (Below.refl _ _).drew⟩
  refine wp_region_lin (FwS W b3 b2 code ad rs.length c k x) [(0, true), (1, true), (2, true), (3, true), (4, true), (5, true), (6, false), (7, true), (8, true)] (by kernel_rfl) (by kernel_rfl) (by kernel_rfl) (Nat.le_of_ble_eq_true rfl) (fun _ _ d _ _ h => by cases d <;> exact h) hS0 ?_
  repeat (first
    | (refine lin_skip rfl (by rfl) ?_; try simp only [Act.put, List.setIfInBounds_toArray, List.set_cons_zero, List.set_cons_succ])
    | (refine' lin_pure rfl (by rfl) _ (fun w' hSw => _) _; rotate_left; (obtain ⟨⟨s1, s2, s3, s4, s5, s6⟩, _⟩ := hSw; go_simp; try with_reducible rfl); try simp only [Act.put, List.setIfInBounds_toArray, List.set_cons_zero, List.set_cons_succ])
    | (refine lin_eff rfl (by rfl) (fun K hK => ?_); go_simp; (go_at_call 40; refine (hend _ _).mono ?_; rintro e w4 ⟨rfl, hb4⟩); go_wp2_with fail; have hS4 := hS0.keep hb4; refine hK.out _ _ hS4 ?_; clear hK K; try simp only [Act.put, List.setIfInBounds_toArray, List.set_cons_zero, List.set_cons_succ]))
  refine lin_nil ?_
  go_wp2_with fail
  go_ret
  exact ⟨rfl, hS4.2⟩
/-- Does a row end behind a code? -/
def endF (rs : List (Rw × Sl)) (code : Int) (k : Nat) : Bool := match rs[k]? with
  | none => true
  | some x => decide (code < (x.1.1 : Int) + x.1.2.1)
theorem endF_mono {w : World} {B : Nat} {A : Option Addr} {rs : List (Rw × Sl)} (h : TbR w B A rs) {code : Int} {a b : Nat} (hab : a ≤ b) (ha : endF rs code a = true) : endF rs code b = true := by
  unfold endF at *
  cases hb : rs[b]? with
  | none => rfl
  | some y =>
    have hlt := (List.getElem?_eq_some_iff.1 hb).1
    have hx : rs[a]? = some rs[a] := List.getElem?_eq_getElem (by omega)
    rw [hx] at ha
    simp only [decide_eq_true_eq] at ha ⊢
    rcases Nat.lt_or_ge a b with h1 | h1
    · have hp := h.2.2.1
      rw [List.pairwise_map, List.pairwise_iff_getElem] at hp
      have := hp a b (by omega) hlt h1
      rw [List.getElem?_eq_getElem hlt] at hb
      injection hb with hb
      subst hb
      omega
    · obtain rfl : a = b := by omega
      rw [hb] at hx; injection hx with hx
      rw [← hx] at ha; exact ha
def ShRel (rs : List (Rw × Sl)) (code : Int) (w0 : World) (i j : Value) (wr : World) : Prop := ∃ lo hi : Nat, lo ≤ hi ∧ hi ≤ rs.length ∧ i = .int .i64 lo ∧ j = .int .i64 hi ∧ (∀ k, k < lo → endF rs code k = false) ∧ endF rs code hi = true ∧ Below w0.heap.size w0 wr
theorem Search_any (b3 b2 : Nat) (code : Int) (A : Option Addr) (c : Nat) (rs : List (Rw × Sl)) (hn : rs.length ≤ 35184372089000) (W : World) (hc : Capt W b3 b2 code A rs.length c) (h : TbR W W.heap.size A rs) :
    Calls Tryd.prog 93 #[.int .i64 rs.length, .func (.func 94) #[] #[.pointer (some ⟨b3, 0, none⟩), .pointer (some ⟨b2, 0, none⟩)]] W fun e w' => ∃ k : Nat, e = .returned (.int .i64 k) ∧ k ≤ rs.length ∧ (∀ j, j < k → endF rs code j = false) ∧ endF rs code k = true ∧ Below W.heap.size W w' := by
  have hend : endF rs code rs.length = true := by unfold endF; rw [List.getElem?_eq_none (Nat.le_refl _)]
  go_enter Tryd.func93, Tryd.ntmps93
  go_wp2_with fail
  go_loopw [5, 6] (fun i j wr => ShRel rs code W i j wr) (fun i j _ => (intOf j).toNat - (intOf i).toNat)
  case atStart => exact ⟨0, rs.length, by omega, Nat.le_refl _, rfl, rfl, (fun k hk => by omega), hend, Below.refl _ _⟩
  case round =>
    obtain ⟨lo, hi, h1, h2, rfl, rfl, h3, h4, hb⟩ := hrel
    have H3 := Lib.hid h3
    have H4 := Lib.hid h4
    clear h3 h4 hend
    by_cases hlt : lo < hi
    · have hmid : (lo + hi) / 2 < hi ∧ lo ≤ (lo + hi) / 2 := by omega
      obtain ⟨m, hm⟩ : ∃ m, m = (lo + hi) / 2 := ⟨_, rfl⟩
      rw [← hm] at hmid
      obtain ⟨x, hx⟩ : ∃ x, rs[m]? = some x := ⟨_, List.getElem?_eq_getElem (by omega)⟩
      have hmi : ((lo : Int) + hi) / 2 = (m : Int) := by omega
      have hcw : Capt wr b3 b2 code A rs.length c := ⟨(hb.cell (World.block_lt_of_cell? _ _ hc.1)).trans hc.1, (hb.cell (World.block_lt_of_cell? _ _ hc.2)).trans hc.2⟩
      have hfw := Fwd1_any b3 b2 code A c rs W.heap.size m x wr hcw (h.below hb) hx
      have hE : endF rs code m = decide (code < (x.1.1 : Int) + x.1.2.1) := by unfold endF; rw [hx]
      rw [← hE] at hfw
      have hz := hb.size
      clear hm
      cases hq : endF rs code m with
      | true =>
        rw [hq] at hfw
        have Hq := Lib.hid hq
        clear hq hE
        go_wp2_with (go_at_call 94; refine hfw.mono ?_; rintro e w1 ⟨rfl, hb1⟩)
        go_roundw
        case rel => exact ⟨lo, m, by omega, by omega, rfl, rfl, H3.out, Hq.out, bch hb hb1⟩
        case measure => simp [intOf]; omega
      | false =>
        rw [hq] at hfw
        have Hq := Lib.hid hq
        clear hq hE
        go_wp2_with (go_at_call 94; refine hfw.mono ?_; rintro e w1 ⟨rfl, hb1⟩)
        go_roundw
        case rel =>
          refine ⟨m + 1, hi, by omega, by omega, by simp, rfl, fun k hk => ?_, H4.out, bch hb hb1⟩
          cases hk2 : endF rs code k with
          | false => rfl
          | true =>
            have := endF_mono h (a := k) (b := m) (by omega) hk2
            rw [Hq.out] at this; cases this
        case measure => simp [intOf]; omega
    · obtain rfl : lo = hi := by omega
      go_wp2_with fail
      go_ret
      exact ⟨lo, rfl, h2, H3.out, H4.out, hb⟩
/-- The sign of a code. -/
def fwdR (rs : List Rw) (code : Int) : Option Int := ((rs.flatMap prs).find? fun x => decide ((x.1 : Int) = code)).map (·.2)
end Go.Proofs.YtpnjandlpbjddabDoor
