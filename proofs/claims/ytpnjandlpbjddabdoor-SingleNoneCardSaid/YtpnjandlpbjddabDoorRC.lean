/- Contracts of a row's methods (end, sign, part), of inside, Seq, List; conditions: the row's codes are below 2^20. -/
import Derived.Test.YtpnjandlpbjddabDoorRB
import Derived.Test.YtpnjandlpbjddabDoorA4
set_option maxRecDepth 100000
set_option maxHeartbeats 1000000
namespace Go.Proofs.YtpnjandlpbjddabDoor
open Go Go.RowKit

/-- A slice: its address, length, capacity. -/
abbrev Sl := Option Addr × Nat × Nat
def slV (q : Sl) : Value := .slice q.1 q.2.1 q.2.2
/-- A row's four cells; the last one is where its signs lie. -/
def rV (x : Rw × Sl) : List Value := [.int .i64 (x.1.1 : Int), .int .i64 (x.1.2.1 : Int), .int .i32 x.1.2.2.1, slV x.2]
theorem rV_len (x : Rw × Sl) : (rV x).length = 4 := rfl
/-- A row's signs lie below a block, as listed, in numbers of their own. -/
def SgOk (w : World) (B : Nat) (x : Rw × Sl) : Prop := match x.1.2.2.2 with
  | none => x.2 = (none, 0, 0)
  | some l => ∃ ad c cs fr, x.2 = (some ad, l.length, c) ∧ l.length ≤ c ∧ ad.block < B ∧ ad.spot = none ∧ w.heap[ad.block]? = some (.cells cs 21 fr) ∧ ∀ j, j < l.length → cs[ad.off + j]? = some (.int .i32 (l.getD j 0))
theorem addr_eq {ad : Addr} (h : ad.spot = none) (j : Nat) : ad.add j = ⟨ad.block, ad.off + j, none⟩ := by
  unfold Addr.add
  split
  · rename_i e; subst e; cases ad; simp at h; subst h; rfl
  · rfl
theorem sg_cell {w : World} {ad : Addr} {cs : Array Value} {T : TypeId} {fr : Nat × Nat} (hsp : ad.spot = none) (hh : w.heap[ad.block]? = some (.cells cs T fr)) (j : Nat) : w.cell? (ad.add j) = cs[ad.off + j]? := by
  rw [addr_eq hsp, cell_of_row _ ad.block _ _ _ _ hh]
theorem SgOk.keep {w w' : World} {B : Nat} {x : Rw × Sl} (h : SgOk w B x) (hk : ∀ k, k < B → (∃ cs fr, w.heap[k]? = some (.cells cs 21 fr)) → w'.heap[k]? = w.heap[k]?) : SgOk w' B x := by
  unfold SgOk at *
  generalize x.1.2.2.2 = q at *
  cases q with
  | none => exact h
  | some l =>
    obtain ⟨ad, c, cs, fr, h1, h2, h3, h5, h6, h4⟩ := h
    exact ⟨ad, c, cs, fr, h1, h2, h3, h5, (hk _ h3 ⟨cs, fr, h6⟩).trans h6, h4⟩
theorem SgOk.below {w w' : World} {B : Nat} {x : Rw × Sl} (h : SgOk w B x) (hb : Below B w w') : SgOk w' B x := h.keep fun k hk _ => hb.block k hk
theorem SgOk.more {w : World} {B B' : Nat} {x : Rw × Sl} (h : SgOk w B x) (hb : B ≤ B') : SgOk w B' x := by
  unfold SgOk at *
  generalize x.1.2.2.2 = q at *
  cases q with
  | none => exact h
  | some l =>
    obtain ⟨ad, c, cs, fr, h1, h2, h3, h5, h6, h4⟩ := h
    exact ⟨ad, c, cs, fr, h1, h2, Nat.lt_of_lt_of_le h3 hb, h5, h6, h4⟩
theorem End_any (f n : Nat) (t : Int) (v : Value) (hf : f + n ≤ 1048576) (w : World) :
    Calls Tryd.prog 40 #[.agg #[.int .i64 (f : Int), .int .i64 (n : Int), .int .i32 t, v]] w fun e w' => e = .returned (.int .i64 ((f : Int) + n)) ∧ Below w.heap.size w w' := by
  have e1 : IntKind.i64.wrap ((f : Int) + n) = (f : Int) + n := IntWalk.i64_in _ (by omega)
  go_enter Tryd.func40, Tryd.ntmps40
  go_wp2_with fail
  go_ret
  exact ⟨rfl, (Below.refl _ w).alloc (Nat.le_refl _) _⟩
def insideB (f n : Int) : Bool := decide (0 ≤ f ∧ 1 ≤ n ∧ f + n ≤ 1048576)
theorem Inside_any (f n : Int) (hf : -9223372036854775808 ≤ f ∧ f < 9223372036854775808) (w : World) :
    Calls Tryd.prog 63 #[.int .i64 f, .int .i64 n] w fun e w' => e = .returned (.bool (insideB f n)) ∧ w = w' := by
  by_cases h1 : 0 ≤ f
  · by_cases h2 : f < 1048576
    · have e1 : IntKind.i64.wrap (1048576 - f) = 1048576 - f := IntWalk.i64_in _ (by omega)
      by_cases h3 : 1 ≤ n
      · have hr : insideB f n = decide (n ≤ 1048576 - f) := by unfold insideB; exact decide_eq_decide.2 (by omega)
        rw [hr]
        go_enter Tryd.func63, Tryd.ntmps63
        go_wp2_with fail
        go_ret
        exact ⟨rfl, rfl⟩
      · have hr : insideB f n = false := by unfold insideB; exact decide_eq_false (by omega)
        rw [hr]
        go_enter Tryd.func63, Tryd.ntmps63
        go_wp2_with fail
        go_ret
        exact ⟨rfl, rfl⟩
    · have hr : insideB f n = false := by unfold insideB; exact decide_eq_false (by omega)
      rw [hr]
      go_enter Tryd.func63, Tryd.ntmps63
      go_wp2_with fail
      go_ret
      exact ⟨rfl, rfl⟩
  · have hr : insideB f n = false := by unfold insideB; exact decide_eq_false (by omega)
    rw [hr]
    go_enter Tryd.func63, Tryd.ntmps63
    go_wp2_with fail
    go_ret
    exact ⟨rfl, rfl⟩
theorem Seq_any (f : Int) (t : Int) (n : Int) (w : World) :
    Calls Tryd.prog 16 #[.int .i64 f, .int .i32 t, .int .i64 n] w fun e w' => e = .returned (.agg #[.int .i64 f, .int .i32 t, .int .i64 n, .string ⟨#[]⟩]) ∧ Below w.heap.size w w' := by
  go_enter Tryd.func16, Tryd.ntmps16
  go_wp2_with fail
  refine bodyPost_ret (v := .agg #[.int .i64 f, .int .i32 t, .int .i64 n, .string ⟨#[]⟩]) (by simp [results, Tryd.results16, go_sem]) rfl ⟨rfl, ?_⟩
  exact (Below.refl _ w).alloc (Nat.le_refl _) _
theorem List_any (f : Int) (s : ByteArray) (w : World) :
    Calls Tryd.prog 34 #[.int .i64 f, .string s] w fun e w' => e = .returned (.agg #[.int .i64 f, .int .i32 0, .int .i64 0, .string s]) ∧ Below w.heap.size w w' := by
  go_enter Tryd.func34, Tryd.ntmps34
  go_wp2_with fail
  refine bodyPost_ret (v := .agg #[.int .i64 f, .int .i32 0, .int .i64 0, .string s]) (by simp [results, Tryd.results34, go_sem]) rfl ⟨rfl, ?_⟩
  exact (Below.refl _ w).alloc (Nat.le_refl _) _
/-- The sign of a code that a row has. -/
theorem Sign_any (x : Rw × Sl) (c : Nat) (hx : RwOk x.1) (hc : x.1.1 ≤ c ∧ c < x.1.1 + x.1.2.1) (w : World) (hs : SgOk w w.heap.size x) :
    Calls Tryd.prog 41 #[.agg (rV x).toArray, .int .i64 (c : Int)] w fun e w' => e = .returned (.int .i32 (sgAt x.1 (c - x.1.1))) ∧ Below w.heap.size w w' := by
  obtain ⟨⟨f, n, t, q⟩, v⟩ := x
  obtain ⟨h1, h2, h3⟩ := hx
  simp only at h1 h2 h3 hc
  have e1 : IntKind.i64.wrap ((c : Int) - f) = (c : Int) - f := IntWalk.i64_in _ (by omega)
  have e2 : ((c : Int) - f).toNat = c - f := by omega
  have hcf : (c : Int) - f = ((c - f : Nat) : Int) := by omega
  cases q with
  | none =>
    obtain rfl : v = (none, 0, 0) := hs
    simp only at h3
    have e3 : IntKind.i32.wrap ((c : Int) - f) = (c : Int) - f := IntWalk.i32_in _ (by omega)
    have e4 : IntKind.i32.wrap (t + ((c : Int) - f)) = t + ((c : Int) - f) := IntWalk.i32_in _ (by omega)
    have hr : sgAt (f, n, t, none) (c - f) = t + ((c - f : Nat) : Int) := rfl
    simp only
    rw [hr]
    unfold rV slV
    simp only
    have hnn := fun (w : World) (a : Option Addr) (n c : Nat) => run_neq_slice_nil_any (P := Tryd.prog) w 71 _ a n c 0 0 Tryd.underlying71
    go_enter Tryd.func41, Tryd.ntmps41
    go_wp2_with fail
    go_ret
    exact ⟨rfl, (Below.refl _ w).alloc (Nat.le_refl _) _⟩
  | some l =>
    obtain ⟨ad, cp, cs, fr, hv, hcp, hbk, hsp, hh, hcs⟩ := hs
    have hcell : ∀ j, j < l.length → w.cell? (ad.add j) = some (.int .i32 (l.getD j 0)) := fun j hj => (sg_cell hsp hh j).trans (hcs j hj)
    clear hcs hh
    simp only at hv hcp hcell h3
    subst hv
    have hl : c - f < l.length := by omega
    have hab : (ad.add (c - f)).block < w.heap.size := by unfold Addr.add; split <;> exact hbk
    have hce := fun o => (World.cell?_alloc_lt w o _ hab).trans (hcell (c - f) hl)
    have hr : sgAt (f, n, t, some l) (c - f) = l.getD (c - f) 0 := rfl
    simp only
    rw [hr]
    generalize l.getD (c - f) 0 = z at *
    clear hcell hr
    unfold rV slV
    simp only
    have hnn := fun (w : World) (a : Option Addr) (n c : Nat) => run_neq_slice_nil_any (P := Tryd.prog) w 71 _ a n c 0 0 Tryd.underlying71
    go_enter Tryd.func41, Tryd.ntmps41
    go_wp2_with fail
    go_ret
    exact ⟨rfl, (Below.refl _ w).alloc (Nat.le_refl _) _⟩
end Go.Proofs.YtpnjandlpbjddabDoor
