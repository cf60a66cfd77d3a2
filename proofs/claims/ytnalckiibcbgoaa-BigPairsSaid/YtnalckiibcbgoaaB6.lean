/- Contract of big5.one, for every pair of small numbers. -/
import Derived.Test.YtnalckiibcbgoaaB5
import Derived.Deep.RegionHeld3
set_option maxRecDepth 100000
set_option maxHeartbeats 1000000
namespace Go.Proofs.Ytnalckiibcbgoaa
open Go Go.RowKit

theorem BAt_any (s : ByteArray) (ps : List Int) (h : Hex s ps) (k : Int) (hs : s.size ≤ 100000) (hkb : -100000 ≤ k ∧ k ≤ 100000) (w : World) :
    Calls Try.prog 29 #[.string s, .int .i64 k] w fun e w' => e = .returned (.tuple #[.int .i32 (if 0 ≤ k ∧ k < ps.length then ps.getD k.toNat 0 else 0), .bool (decide (0 ≤ k ∧ k < ps.length))]) ∧ Below w.heap.size w w' := by
  by_cases hk : 0 ≤ k ∧ k < ps.length
  · have := At_in s ps h k.toNat (by omega) hs w
    have e : ((k.toNat : Nat) : Int) = k := by omega
    rw [e] at this
    simp only [hk, and_self, if_true, decide_true]
    exact this
  · have := At_out s ps h k (by omega) hs hkb w
    simp only [if_neg hk, decide_eq_false hk]
    exact this

theorem Cell_b (b : Int) (hb : -1000 ≤ b ∧ b ≤ 1000) (w : World) :
    Calls Try.prog 26 #[.int .i64 b] w fun e w' => e = .returned (.int .i64 (cellZ b)) ∧ Below w.heap.size w w' :=
  (Cell_any b hb w).mono fun e w' h => ⟨h.1, by rw [← h.2]; exact Below.refl _ _⟩
theorem Second_b (b : Int) (hb : -1000 ≤ b ∧ b ≤ 1000) (w : World) :
    Calls Try.prog 25 #[.int .i64 b] w fun e w' => e = .returned (.int .i64 (secondZ b)) ∧ Below w.heap.size w w' :=
  (Second_any b hb w).mono fun e w' h => ⟨h.1, by rw [← h.2]; exact Below.refl _ _⟩
theorem len11 : ∀ k, k < 11 → (listN k).length ≤ 157 ∧ 0 ≤ leadN k ∧ leadN k ≤ 255 ∧ 64 ≤ secN k ∧ secN k ≤ 254 ∧ 0 ≤ cellZ (secN k) ∧ cellZ (secN k) + (listN k).length ≤ 157 := by decide +kernel
theorem mem11 {k : Nat} (h : k < 11) : SP.getD k (0, 0, []) ∈ SP := by
  rw [List.getD_eq_getElem?_getD, List.getElem?_eq_getElem (by simpa [SP] using h)]; simp
theorem drop11 {k : Nat} (h : k < 11) : SP.drop k = (leadN k, secN k, listN k) :: SP.drop (k + 1) := by
  have hl : k < SP.length := by simpa [SP] using h
  rw [List.drop_eq_getElem_cons hl]
  simp only [leadN, secN, listN, List.getD_eq_getElem?_getD, List.getElem?_eq_getElem hl, Option.getD_some]
theorem hex11 {k : Nat} (h : k < 11) : Hex (sB k) (listN k) ∧ (sB k).size ≤ 100000 := by
  have hx : Hex (sB k) (listN k) := ⟨by simp [sB, listN], fun p hp => by have := small_at (mem11 h) p hp; omega⟩
  refine ⟨hx, ?_⟩
  have := (len11 k h).1
  rw [hx.size]; omega
theorem small11 {k : Nat} (h : k < 11) {j : Nat} (hj : j < (listN k).length) : 128 < (listN k).getD j 0 ∧ (listN k).getD j 0 ≤ 65535 := by
  have := small_at (mem11 h) _ (getD_mem' hj)
  exact ⟨this.1, this.2.1⟩
theorem one_step {k : Nat} (h : k < 11) (lead c : Int) : oneL (SP.drop k) lead c = if leadN k = lead ∧ 0 ≤ c - cellZ (secN k) ∧ c - cellZ (secN k) < (listN k).length then (listN k).getD (c - cellZ (secN k)).toNat 0 else oneL (SP.drop (k + 1)) lead c := by
  rw [drop11 h]; rfl
def oneZ (lead b : Int) : Int := if cellZ b < 0 then 0 else oneL SP lead (cellZ b)
theorem one_end (lead c : Int) : oneL (SP.drop 11) lead c = 0 := rfl
theorem bcell_keep {w' w'' : World} {a : Addr} {v : Value} (h : w'.cell? a = some v) (hb : Below w'.heap.size w' w'') : w''.cell? a = some v := by
  rw [hb.cell (World.block_lt_of_cell? _ _ h), h]
theorem bkeep2 {W w' w'' : World} {a0 a1 : Addr} {v0 v1 : Value} (h : w'.cell? a0 = some v0 ∧ w'.cell? a1 = some v1 ∧ Below W.heap.size W w') (hb : Below w'.heap.size w' w'') :
    w''.cell? a0 = some v0 ∧ w''.cell? a1 = some v1 ∧ Below W.heap.size W w'' :=
  ⟨bcell_keep h.1 hb, bcell_keep h.2.1 hb, h.2.2.trans (hb.mono h.2.2.size)⟩
theorem bkeep3 {W w' w'' : World} {a0 a1 a2 : Addr} {v0 v1 v2 : Value} (h : w'.cell? a0 = some v0 ∧ w'.cell? a1 = some v1 ∧ w'.cell? a2 = some v2 ∧ Below W.heap.size W w') (hb : Below w'.heap.size w' w'') :
    w''.cell? a0 = some v0 ∧ w''.cell? a1 = some v1 ∧ w''.cell? a2 = some v2 ∧ Below W.heap.size W w'' :=
  ⟨bcell_keep h.1 hb, bcell_keep h.2.1 hb, bcell_keep h.2.2.1 hb, h.2.2.2.trans (hb.mono h.2.2.2.size)⟩
theorem box3 (w : World) (T : TypeId) (a b c : Value) : (w.alloc (.cells #[a, b, c] T)).cell? ⟨w.heap.size, 0, none⟩ = some a ∧ (w.alloc (.cells #[a, b, c] T)).cell? ⟨w.heap.size, 1, none⟩ = some b ∧ (w.alloc (.cells #[a, b, c] T)).cell? ⟨w.heap.size, 2, none⟩ = some c := by
  have hc := fun j => cell_of_row (w.alloc (.cells #[a, b, c] T)) w.heap.size j _ T (0, 0) (heap_alloc_new w _)
  rw [hc 0, hc 1, hc 2]
  exact ⟨rfl, rfl, rfl⟩
def OneRel (lead c : Int) (w0 : World) (i : Value) (wr : World) : Prop := ∃ k : Nat, k ≤ 11 ∧ i = .int .i64 k ∧ oneL SP lead c = oneL (SP.drop k) lead c ∧ Below w0.heap.size w0 wr

theorem One_any (lead b : Int) (hl : 0 ≤ lead ∧ lead ≤ 255) (hb : 0 ≤ b ∧ b ≤ 255) (w : World) :
    Calls Try.prog 15 #[.int .i64 lead, .int .i64 b] w fun e w' => e = .returned (.tuple #[.int .i32 (oneZ lead b), .bool (decide (oneZ lead b ≠ 0))]) ∧ Below w.heap.size w w' := by
  have hc := cellZ_lt b
  by_cases h0 : cellZ b < 0
  · have e : oneZ lead b = 0 := if_pos h0
    rw [e]
    go_enter Try.func15, Try.ntmps15
    go_wp2_with (first | (go_at_call 26; refine (Cell_any b (by omega) _).mono ?_; rintro e w1 ⟨rfl, rfl⟩))
    go_ret2
    exact ⟨rfl, Below.refl _ _⟩
  · have e : oneZ lead b = oneL SP lead (cellZ b) := if_neg h0
    rw [e]
    have hcb := Cell_any b (by omega)
    generalize cellZ b = c at *
    clear e
    go_enter Try.func15, Try.ntmps15
    go_wp2_with (first | (go_at_call 26; refine (hcb _).mono ?_; rintro e w1 ⟨rfl, rfl⟩) | (go_at_call 23; refine (Spans_abs _).mono ?_; rintro e w1 ⟨V, rfl, hV, hb1⟩))
    go_loopw [16] (fun i wr => OneRel lead c w i wr) (fun i _ => 11 - (intOf i).toNat)
    case atStart => exact ⟨0, by omega, rfl, rfl, hb1⟩
    case round =>
      obtain ⟨k, hk, rfl, heq, hbr⟩ := hrel
      by_cases hk11 : k < 11
      · have hstep := Lib.hid (one_step hk11 lead c)
        obtain ⟨hx, hsz⟩ := hex11 hk11
        obtain ⟨l1, l2, l3, l4, l5, l6, l7⟩ := len11 k hk11
        have hsm := fun j => @small11 k hk11 j
        have hi := hV k hk11
        have hat := fun w => BAt_any (sB k) (listN k) hx (c - cellZ (secN k)) hsz ⟨by omega, by omega⟩ w
        have hcell := fun w => Cell_b (secN k) ⟨by omega, by omega⟩ w
        generalize leadN k = L at *
        generalize secN k = S at *
        generalize listN k = ps at *
        generalize sB k = s at *
        generalize cellZ S = d at *
        clear hx
        by_cases hlead : L = lead
        · subst hlead
          go_wp2_with fail
          obtain ⟨c0, c1, c2⟩ := box3 wr 56 (.int .i64 L) (.int .i64 S) (.string s)
          have hbw := hbr.alloc hbr.size (.cells #[.int .i64 L, .int .i64 S, .string s] 56)
          generalize hW : wr.alloc (.cells #[.int .i64 L, .int .i64 S, .string s] 56) = W at *
          clear hW hbr
          have hw : IntKind.i64.wrap (c - d) = c - d := IntWalk.i64_in _ (by omega)
          by_cases hin : 0 ≤ c - d ∧ c - d < ps.length
          · have hpos := (hsm (c - d).toNat (by omega)).1
            have hval := Lib.hid (show oneL SP L c = ps.getD (c - d).toNat 0 by rw [heq, hstep.out, if_pos ⟨trivial, hin⟩])
            simp only [hin, and_self, if_true, decide_true] at hat
            clear heq hstep
            go_region_held3 (fun w' => w'.cell? ⟨wr.heap.size, 1, none⟩ = some (.int .i64 S) ∧ w'.cell? ⟨wr.heap.size, 2, none⟩ = some (.string s) ∧ Below W.heap.size W w') (first | exact ⟨c1, c2, (Below.refl _ _).drew⟩ | exact bkeep2 (by assumption) (by assumption)) (first | (go_at_call 26; refine (hcell _).mono ?_; rintro e w3 ⟨rfl, hb3⟩) | (go_at_call 29; refine (hat _).mono ?_; rintro e w3 ⟨rfl, hb3⟩))
            rename_i hS
            have hB := hbw.trans (hS.2.2.mono hbw.size)
            go_wp2_with fail
            go_ret2
            refine ⟨?_, hB⟩
            have hne : ps.getD (c - d).toNat 0 ≠ 0 := by omega
            show Ending.returned (.tuple #[.int .i32 (ps.getD (c - d).toNat 0), .bool true]) = _
            rw [hval.out, decide_eq_true hne]
          · have hval := Lib.hid (show oneL SP L c = oneL (SP.drop (k + 1)) L c by rw [heq, hstep.out, if_neg (fun h => hin h.2)])
            simp only [if_neg hin, decide_eq_false hin] at hat
            clear heq hstep hsm
            go_region_held3 (fun w' => w'.cell? ⟨wr.heap.size, 1, none⟩ = some (.int .i64 S) ∧ w'.cell? ⟨wr.heap.size, 2, none⟩ = some (.string s) ∧ Below W.heap.size W w') (first | exact ⟨c1, c2, (Below.refl _ _).drew⟩ | exact bkeep2 (by assumption) (by assumption)) (first | (go_at_call 26; refine (hcell _).mono ?_; rintro e w3 ⟨rfl, hb3⟩) | (go_at_call 29; refine (hat _).mono ?_; rintro e w3 ⟨rfl, hb3⟩))
            rename_i hS
            have hB := hbw.trans (hS.2.2.mono hbw.size)
            go_wp2_with fail
            go_roundw
            case rel => exact ⟨k + 1, by omega, by go_num, hval.out, hB⟩
            case measure => simp [intOf]; omega
        · go_wp2_with fail
          go_roundw
          case rel => exact ⟨k + 1, by omega, by go_num, by rw [heq, hstep.out, if_neg (fun h => hlead h.1)], hbr.alloc hbr.size _⟩
          case measure => simp [intOf]; omega
      · have hk2 : k = 11 := by omega
        subst hk2
        have hend := Lib.hid (one_end lead c)
        clear hk11
        go_wp2_with fail
        go_ret2
        rw [heq, hend.out]
        exact ⟨rfl, hbr⟩
end Go.Proofs.Ytnalckiibcbgoaa
