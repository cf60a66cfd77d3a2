/- Contract of math/bits.OnesCount32, for every number of 32 bits. -/
import Derived.Test.YtllmjlmeheohlaaDoorSM3
import Derived.Test.YtllmjlmeheohlaaDoorLaws
import Derived.WalkKit
import Derived.WalkSpells
import Derived.Outline
import Derived.Deep.DeepFit
import Derived.Test.YtllmjlmeheohlaaDoorRows
import Derived.Lib.EndianBits
set_option maxRecDepth 100000
set_option maxHeartbeats 1000000
namespace Go.Proofs.YtllmjlmeheohlaaDoor
open Go Go.RowKit

theorem pop_add : ∀ (r f x : Nat), Lib.popAux (r + f) x = Lib.popAux r x + Lib.popAux f (x / 2 ^ r)
  | 0, f, x => by simp [Lib.popAux]
  | r + 1, f, x => by
    rw [show r + 1 + f = r + f + 1 by omega]
    simp only [Lib.popAux]
    rw [pop_add r f (x / 2), Nat.div_div_eq_div_mul, Nat.pow_succ, Nat.mul_comm 2 (2 ^ r), Nat.add_assoc]
theorem pop_mod : ∀ (r x : Nat), Lib.popAux r (x % 2 ^ r) = Lib.popAux r x
  | 0, x => rfl
  | r + 1, x => by
    have ih := pop_mod r (x / 2)
    simp only [Lib.popAux]
    have e1 : x % 2 ^ (r + 1) % 2 = x % 2 := by rw [Nat.pow_succ, Nat.mod_mul_left_mod]
    have e2 : x % 2 ^ (r + 1) / 2 = x / 2 % 2 ^ r := by rw [Nat.pow_succ, Nat.mul_comm, Nat.mod_mul_right_div_self]
    rw [e1, e2, ih]
theorem pop_zero : ∀ f, Lib.popAux f 0 = 0
  | 0 => rfl
  | f + 1 => by simp [Lib.popAux, pop_zero f]
theorem ones_byte (y : Nat) : Lib.popAux 8 y = Lib.onesCount (y % 256) := by
  unfold Lib.onesCount
  rw [show (64 : Nat) = 8 + 56 by decide, pop_add 8 56, show y % 256 / 2 ^ 8 = 0 by omega, pop_zero, Nat.add_zero]
  exact (pop_mod 8 y).symm
theorem ones_four (x : Nat) (h : x < 2 ^ 32) : Lib.onesCount x = Lib.onesCount (x / 16777216) + Lib.onesCount (x / 65536 % 256) + Lib.onesCount (x / 256 % 256) + Lib.onesCount (x % 256) := by
  have e0 : Lib.onesCount x = Lib.popAux 8 x + (Lib.popAux 8 (x / 256) + (Lib.popAux 8 (x / 65536) + (Lib.popAux 8 (x / 16777216) + 0))) := by
    unfold Lib.onesCount
    rw [show (64 : Nat) = 8 + (8 + (8 + (8 + 32))) by decide, pop_add 8, pop_add 8, pop_add 8, pop_add 8, show x / 2 ^ 8 / 2 ^ 8 / 2 ^ 8 / 2 ^ 8 = 0 by omega, pop_zero, show x / 2 ^ 8 / 2 ^ 8 / 2 ^ 8 = x / 16777216 by omega, show x / 2 ^ 8 / 2 ^ 8 = x / 65536 by omega, show x / 2 ^ 8 = x / 256 by omega]
  have e1 := ones_byte x
  have e2 := ones_byte (x / 256)
  have e3 := ones_byte (x / 65536)
  have e4 := ones_byte (x / 16777216)
  rw [show x / 16777216 % 256 = x / 16777216 by omega] at e4
  rw [e0, e1, e2, e3, e4]
  generalize Lib.onesCount (x / 16777216) = a
  generalize Lib.onesCount (x / 65536 % 256) = b
  generalize Lib.onesCount (x / 256 % 256) = c
  generalize Lib.onesCount (x % 256) = d
  omega

def eqB : List UInt8 → List UInt8 → Bool
  | [], [] => true
  | a :: l, b :: r => Nat.beq a.toNat b.toNat && eqB l r
  | _, _ => false
theorem eqB_eq : ∀ (l r : List UInt8), eqB l r = true → l = r
  | [], [], _ => rfl
  | a :: l, b :: r, h => by
    simp only [eqB, Bool.and_eq_true] at h
    rw [eqB_eq l r h.2, UInt8.toNat_inj.1 (Nat.eq_of_beq_eq_true h.1)]
  | [], _ :: _, h => by simp [eqB] at h
  | _ :: _, [], h => by simp [eqB] at h
def tabL : List UInt8 := (List.range 256).map fun i => (Lib.onesCount i).toUInt8
def pB : ByteArray := ⟨tabL.toArray⟩
theorem litP (d : Array UInt8) (h : eqB d.toList tabL = true) : ByteArray.mk d = pB := by
  have := eqB_eq _ _ h
  unfold pB
  rw [← this]
theorem pB_size : pB.size = 256 := by
  show tabL.toArray.size = 256
  simp [tabL]
theorem ones8 : ∀ n : Fin 256, Lib.onesCount n.val ≤ 8 := Lib.onesCount_le8
theorem mkB_get (L : List UInt8) (i : Nat) (h : i < (⟨L.toArray⟩ : ByteArray).size) : (⟨L.toArray⟩ : ByteArray)[i] = L[i]'h := rfl
theorem tabL_len : tabL.length = 256 := by simp only [tabL, List.length_map, List.length_range]
theorem tabL_at (i : Nat) (h : i < tabL.length) : tabL[i] = (Lib.onesCount i).toUInt8 := by
  simp only [tabL, List.getElem_map, List.getElem_range]
theorem small8 (k : Nat) (h : k ≤ 8) : (k.toUInt8).toNat = k := by
  show k % 256 = k
  omega
theorem pB_at (i : Nat) (hi : i < 256) (h : i < pB.size) : (pB[i]'h).toNat = Lib.onesCount i ∧ Lib.onesCount i ≤ 8 := by
  have h8 : Lib.onesCount i ≤ 8 := ones8 ⟨i, hi⟩
  refine ⟨?_, h8⟩
  have e : pB[i]'h = (Lib.onesCount i).toUInt8 := (mkB_get tabL i h).trans (tabL_at i h)
  rw [e]
  exact small8 _ h8
theorem u32_and255 {x : Int} (h0 : 0 ≤ x) (h1 : x < 4294967296) : bits .and .u32 x 255 = x % 256 :=
  bits_mask .u32 32 (by decide) (fun n h0 h1 => by simp [IntKind.wrap, IntKind.bits, IntKind.signed]; omega) 8 (by decide) x h0 (by omega)

theorem Ones_any (x : Nat) (hx : x < 2 ^ 32) (w : World) :
    Calls Tryd.prog 21 #[.int .u32 x] w fun e w' => e = .returned (.int .i64 (Lib.onesCount x)) ∧ Below w.heap.size w w' := by
  have h4 := Lib.hid (ones_four x hx)
  have hz := pB_size
  have hP : ∀ (i : Nat) (_hi : i < 256) (h : i < pB.size), (pB[i]'h).toNat = Lib.onesCount i ∧ Lib.onesCount i ≤ 8 := pB_at
  have b1 : bits .and .u32 ((x : Int) / 65536) 255 = (x : Int) / 65536 % 256 := u32_and255 (by omega) (by omega)
  have b2 : bits .and .u32 ((x : Int) / 256) 255 = (x : Int) / 256 % 256 := u32_and255 (by omega) (by omega)
  have b3 : bits .and .u32 (x : Int) 255 = (x : Int) % 256 := u32_and255 (by omega) (by omega)
  have t1 : ((x : Int) / 16777216).toNat = x / 16777216 := by omega
  have t2 : ((x : Int) / 65536 % 256).toNat = x / 65536 % 256 := by omega
  have t3 : ((x : Int) / 256 % 256).toNat = x / 256 % 256 := by omega
  have t4 : ((x : Int) % 256).toNat = x % 256 := by omega
  have r1 : 0 ≤ (x : Int) / 16777216 ∧ (x : Int) / 16777216 < 256 := by omega
  have r2 : 0 ≤ (x : Int) / 65536 % 256 ∧ (x : Int) / 65536 % 256 < 256 := by omega
  have r3 : 0 ≤ (x : Int) / 256 % 256 ∧ (x : Int) / 256 % 256 < 256 := by omega
  have r4 : 0 ≤ (x : Int) % 256 ∧ (x : Int) % 256 < 256 := by omega
  refine calls_of_wp Tryd.func21 rfl ?_
  rw [litP]
  rotate_left
  kernel_rfl
  generalize pB = s at *
  obtain ⟨p1, q1⟩ := hP (x / 16777216) (by omega) (by omega)
  obtain ⟨p2, q2⟩ := hP (x / 65536 % 256) (by omega) (by omega)
  obtain ⟨p3, q3⟩ := hP (x / 256 % 256) (by omega) (by omega)
  obtain ⟨p4, q4⟩ := hP (x % 256) (by omega) (by omega)
  generalize Lib.onesCount (x / 16777216) = a at *
  generalize Lib.onesCount (x / 65536 % 256) = b at *
  generalize Lib.onesCount (x / 256 % 256) = c at *
  generalize Lib.onesCount (x % 256) = d at *
  clear hP
  simp only [Tryd.ntmps21, List.size_toArray, List.length_cons, List.length_nil, Nat.reduceAdd, Nat.reduceSub, Array.replicate_succ, Array.replicate_zero, List.push_toArray, List.append_toArray, List.nil_append, List.cons_append]
  go_wp2_with fail
  go_region
  go_wp2_with fail
  go_ret
  refine ⟨ret_int ?_, (Below.refl _ w).drew⟩
  rw [h4.out]
  omega
end Go.Proofs.YtllmjlmeheohlaaDoor
