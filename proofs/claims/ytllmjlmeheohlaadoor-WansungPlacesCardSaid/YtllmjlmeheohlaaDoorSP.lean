/- Contracts of wansung.choose, Place, Extra, for every number; condition: the table of math/bits lies as laid. -/
import Derived.Test.YtllmjlmeheohlaaDoorSN
import Derived.Test.YtllmjlmeheohlaaDoorST
import Derived.Test.YtllmjlmeheohlaaDoorP5
set_option maxRecDepth 100000
set_option maxHeartbeats 1000000
namespace Go.Proofs.YtllmjlmeheohlaaDoor
open Go Go.RowKit

def DB (w : World) : Prop := TabAt 0 Lib.deBruijn32tab w
theorem DB_below {w w' : World} {B : Nat} (h : DB w) (hb : Below B w w') (hB : w.heap.size ≤ B) : DB w' := fun j hj =>
  (hb.cell (p := ⟨_, j, none⟩) (Nat.lt_of_lt_of_le (World.block_lt_of_cell? _ _ (h j hj)) hB)).trans (h j hj)
def ChPost (k : Nat) (b : Bool) (w0 : World) (e : Ending) (w' : World) : Prop := ∃ p, e = .returned (.tuple #[.int .i32 p, .bool (p != 0)]) ∧ KthIs k b p ∧ Below w0.heap.size w0 w'
theorem Choose_neg (k : Int) (hk : k < 0) (b : Bool) (w : World) :
    Calls Tryd.prog 25 #[.int .i64 k, .bool b] w fun e w' => e = .returned (.tuple #[.int .i32 0, .bool false]) ∧ Below w.heap.size w w' := by
  go_enter Tryd.func25, Tryd.ntmps25
  go_wp2_with fail
  go_ret2
  exact ⟨rfl, Below.refl _ _⟩
theorem bits_xor_u32_nat (a b : Nat) (ha : a < 4294967296) (hb : b < 4294967296) : bits .xor .u32 (a : Int) (b : Int) = ((a ^^^ b : Nat) : Int) := by
  have hx : a ^^^ b < 2 ^ 32 := Nat.xor_lt_two_pow (by omega) (by omega)
  have h1 : (BitVec.ofInt 32 (a : Int)).toNat = a := by
    rw [BitVec.ofInt_natCast, BitVec.toNat_ofNat]; exact Nat.mod_eq_of_lt (by omega)
  have h2 : (BitVec.ofInt 32 (b : Int)).toNat = b := by
    rw [BitVec.ofInt_natCast, BitVec.toNat_ofNat]; exact Nat.mod_eq_of_lt (by omega)
  show IntKind.u32.wrap ((BitVec.ofInt 32 (a : Int) ^^^ BitVec.ofInt 32 (b : Int)).toNat : Int) = _
  rw [BitVec.toNat_xor, h1, h2, wrap_u32']
  omega
theorem xor28 (x : Nat) (hx : x < 2 ^ 28) : bits .xor .u32 (x : Int) 268435455 = ((comp x : Nat) : Int) := by
  rw [← comp_xor x hx]
  exact bits_xor_u32_nat x 268435455 (by omega) (by omega)
theorem grp_in (g : Nat) : gr g = grp true g := rfl
theorem grp_out (g : Nat) : bits .xor .u32 (gr g : Int) 268435455 = ((grp false g : Nat) : Int) := xor28 _ (gr_lt g)
theorem ones_le28 (x : Nat) (h : x < 2 ^ 28) : Lib.onesCount x ≤ 28 := by
  have h3 := comp_ones x 28 h (Nat.le_refl _)
  rw [Nat.mod_eq_of_lt h] at h3
  exact Nat.le.intro (by rw [Nat.add_comm]; exact h3)
theorem Tz_any (x : Nat) (hx : x < 4294967296) (w : World) (hD : DB w) :
    Calls Tryd.prog 40 #[.int .u32 x] w fun e w' => e = .returned (.int .i64 (Lib.ctz 32 x)) ∧ Below w.heap.size w w' :=
  (Any7.bits_TrailingZeros32 Tryd.lays7n28 x hx w fun _ => hD).mono fun _ _ h => ⟨h.1, by rw [h.2]; exact Below.refl _ _⟩
theorem and_dec (n : Nat) (hn : n < 2 ^ 28) : bits .and .u32 (n : Int) (((n : Int) - 1) % 4294967296) = ((n &&& (n - 1) : Nat) : Int) := by
  by_cases h0 : n = 0
  · subst h0
    decide
  · rw [show ((n : Int) - 1) % 4294967296 = ((n - 1 : Nat) : Int) by omega, bits_and_u32_nat n _ (by omega) (by omega)]
def ChRel (k : Nat) (b : Bool) (w0 : World) (kv g : Value) (wr : World) : Prop := ∃ m : Nat, m ≤ 399 ∧ g = .int .i64 m ∧ cnt b (28 * m) ≤ k ∧ kv = .int .i64 ((k - cnt b (28 * m) : Nat) : Int) ∧ Below w0.heap.size w0 wr
def ChIn (x k : Nat) (kv n : Value) : Prop := ∃ j : Nat, j ≤ k ∧ kv = .int .i64 ((k - j : Nat) : Int) ∧ n = .int .u32 ((clr x j : Nat) : Int)
theorem Choose_any (k : Nat) (hk : k ≤ 9223372036854775807) (b : Bool) (w : World) (hD : DB w) :
    Calls Tryd.prog 25 #[.int .i64 k, .bool b] w (ChPost k b w) := by
  generalize hP : ChPost k b w = P at *
  go_enter Tryd.func25, Tryd.ntmps25
  go_wp2_with fail
  go_loopw [0, 6] (fun kv g wr => ChRel k b w kv g wr) (fun _ g _ => 399 - (intOf g).toNat)
  case atStart => exact ⟨0, by omega, rfl, by simp [cnt], by simp [cnt], Below.refl _ _⟩
  case round =>
    obtain ⟨m, hm, rfl, hlo, rfl, hb⟩ := hrel
    by_cases hlt : m < 399
    · have hgrp := fun w => Group_any m hlt w
      have hnx := cnt_grp_next b m
      have hpk := pick b m k hlt hlo
      have hx := grp_lt b m
      have ho28 := ones_le28 _ hx
      have hgi := grp_in m
      have hgo := grp_out m
      have hones := fun w => Ones_any (grp b m) (by omega) w
      have hTz := fun j w => Tz_any (clr (grp b m) j) (Nat.lt_trans (clr_lt j _ hx) (by decide)) w
      have hlt28 := fun j => clr_lt j _ hx
      have hsc := fun j => clr_succ j (grp b m)
      generalize hon : Lib.onesCount (grp b m) = o at *
      have hr : k - cnt b (28 * m) ≤ 9223372036854775807 := by omega
      have hnx2 : k - cnt b (28 * m) ≥ o → k - cnt b (28 * (m + 1)) = k - cnt b (28 * m) - o ∧ cnt b (28 * (m + 1)) ≤ k := by omega
      clear hnx hon
      generalize k - cnt b (28 * m) = r at *
      by_cases hc : o ≤ r
      · have Hn := Lib.hid (hnx2 hc)
        clear hnx2 hpk hTz hlt28 hsc
        cases b
        · generalize grp false m = x at *
          clear hgi
          go_wp2_with (first | (go_at_call 22; refine (hgrp _).mono ?_; rintro e w1 ⟨rfl, hb1⟩) | (go_at_call 21; refine (hones _).mono ?_; rintro e w2 ⟨rfl, hb2⟩))
          go_roundw
          case rel => exact ⟨m + 1, by omega, by go_num, Hn.out.2, by rw [Hn.out.1, show ((r - o : Nat) : Int) = (r : Int) - o by omega], (hb.trans (hb1.mono hb.size)).trans (hb2.mono (Nat.le_trans hb.size hb1.size))⟩
          case measure => simp [intOf]; omega
        · rw [← hgi] at hones
          clear hgi hgo
          go_wp2_with (first | (go_at_call 22; refine (hgrp _).mono ?_; rintro e w1 ⟨rfl, hb1⟩) | (go_at_call 21; refine (hones _).mono ?_; rintro e w2 ⟨rfl, hb2⟩))
          go_roundw
          case rel => exact ⟨m + 1, by omega, by go_num, Hn.out.2, by rw [Hn.out.1, show ((r - o : Nat) : Int) = (r : Int) - o by omega], (hb.trans (hb1.mono hb.size)).trans (hb2.mono (Nat.le_trans hb.size hb1.size))⟩
          case measure => simp [intOf]; omega
      · have Hpk := Lib.hid (hpk (by omega))
        clear hnx2 hpk
        cases b
        · generalize grp false m = x at *
          clear hgi
          go_wp2_with (first | (go_at_call 22; refine (hgrp _).mono ?_; rintro e w1 ⟨rfl, hb1⟩) | (go_at_call 21; refine (hones _).mono ?_; rintro e w2 ⟨rfl, hb2⟩))
          have hB := (hb.trans (hb1.mono hb.size)).trans (hb2.mono (Nat.le_trans hb.size hb1.size))
          have hD2 := DB_below hD hB (Nat.le_refl _)
          clear hgrp hones hb1 hb2 hb hD
          go_loop [0, 7] (fun kv n => ChIn x r kv n) (fun kv _ => (intOf kv).toNat)
          case atStart => exact ⟨0, by omega, by simp, rfl⟩
          case round =>
            obtain ⟨j, hj, rfl, rfl⟩ := hrel
            by_cases hjr : j < r
            · have hd := and_dec (clr x j) (hlt28 j)
              have hs := Lib.hid (hsc j)
              generalize clr x j = y at *
              generalize hrj : r - j = q at *
              clear hsc hTz hlt28 Hpk
              have hq : 0 < q := by omega
              have hq2 : q ≤ 1000000 := by omega
              go_wp2_with fail
              go_round
              case rel => exact ⟨j + 1, by omega, by rw [show ((r - (j + 1) : Nat) : Int) = (q : Int) - 1 by omega], by rw [hs.out]⟩
              case measure => simp [intOf]; omega
            · have hje : j = r := by omega
              subst hje
              have htz := hTz j
              have hct : Lib.ctz 32 (clr x j) < 28 := Hpk.out.2
              have Hp := Lib.hid Hpk.out.1
              clear Hpk hsc hTz hlt28 hjr
              rw [Nat.sub_self]
              generalize clr x j = y at *
              generalize Lib.ctz 32 y = z at *
              go_wp2_with (first | (go_at_call 40; refine (htz _ hD2).mono ?_; rintro e w3 ⟨rfl, hb3⟩))
              have hne : ((44032 + 28 * (m : Int) + (z : Int)) != 0) = true := by simp; omega
              have he : (44032 + (m : Int) * 28 + (z : Int)) = 44032 + 28 * (m : Int) + (z : Int) := by omega
              show P (.returned (.tuple #[.int .i32 (44032 + (m : Int) * 28 + (z : Int)), .bool true])) w3
              rw [← hP, he]
              exact ⟨_, by rw [hne], Hp.out, hB.trans (hb3.mono hB.size)⟩
        · rw [← hgi] at hones hTz hlt28 hsc Hpk
          clear hgi hgo
          generalize gr m = x at *
          go_wp2_with (first | (go_at_call 22; refine (hgrp _).mono ?_; rintro e w1 ⟨rfl, hb1⟩) | (go_at_call 21; refine (hones _).mono ?_; rintro e w2 ⟨rfl, hb2⟩))
          have hB := (hb.trans (hb1.mono hb.size)).trans (hb2.mono (Nat.le_trans hb.size hb1.size))
          have hD2 := DB_below hD hB (Nat.le_refl _)
          clear hgrp hones hb1 hb2 hb hD
          go_loop [0, 7] (fun kv n => ChIn x r kv n) (fun kv _ => (intOf kv).toNat)
          case atStart => exact ⟨0, by omega, by simp, rfl⟩
          case round =>
            obtain ⟨j, hj, rfl, rfl⟩ := hrel
            by_cases hjr : j < r
            · have hd := and_dec (clr x j) (hlt28 j)
              have hs := Lib.hid (hsc j)
              generalize clr x j = y at *
              generalize hrj : r - j = q at *
              clear hsc hTz hlt28 Hpk
              have hq : 0 < q := by omega
              have hq2 : q ≤ 1000000 := by omega
              go_wp2_with fail
              go_round
              case rel => exact ⟨j + 1, by omega, by rw [show ((r - (j + 1) : Nat) : Int) = (q : Int) - 1 by omega], by rw [hs.out]⟩
              case measure => simp [intOf]; omega
            · have hje : j = r := by omega
              subst hje
              have htz := hTz j
              have hct : Lib.ctz 32 (clr x j) < 28 := Hpk.out.2
              have Hp := Lib.hid Hpk.out.1
              clear Hpk hsc hTz hlt28 hjr
              rw [Nat.sub_self]
              generalize clr x j = y at *
              generalize Lib.ctz 32 y = z at *
              go_wp2_with (first | (go_at_call 40; refine (htz _ hD2).mono ?_; rintro e w3 ⟨rfl, hb3⟩))
              have hne : ((44032 + 28 * (m : Int) + (z : Int)) != 0) = true := by simp; omega
              have he : (44032 + (m : Int) * 28 + (z : Int)) = 44032 + 28 * (m : Int) + (z : Int) := by omega
              show P (.returned (.tuple #[.int .i32 (44032 + (m : Int) * 28 + (z : Int)), .bool true])) w3
              rw [← hP, he]
              exact ⟨_, by rw [hne], Hp.out, hB.trans (hb3.mono hB.size)⟩
    · have hme : m = 399 := by omega
      subst hme
      have Hle := Lib.hid hlo
      clear hlt hlo
      go_wp2_with fail
      show P (.returned (.tuple #[.int .i32 0, .bool false])) wr
      rw [← hP]
      exact ⟨_, rfl, .inr ⟨Hle.out, rfl⟩, hb⟩
end Go.Proofs.YtllmjlmeheohlaaDoor
