/- Contract of wansung.group, for every group's number below 399. -/
import Derived.Test.YtllmjlmeheohlaaDoorSO
set_option maxRecDepth 100000
set_option maxHeartbeats 1000000
namespace Go.Proofs.YtllmjlmeheohlaaDoor
open Go Go.RowKit

def hexLow (n : Nat) : UInt8 := if n < 10 then (48 + n).toUInt8 else (87 + n).toUInt8
def hex7 (x : Nat) : List UInt8 := [hexLow (x / 16777216 % 16), hexLow (x / 1048576 % 16), hexLow (x / 65536 % 16), hexLow (x / 4096 % 16), hexLow (x / 256 % 16), hexLow (x / 16 % 16), hexLow (x % 16)]
def memL : List UInt8 := G.flatMap hex7
def mB : ByteArray := ⟨memL.toArray⟩
theorem litM (d : Array UInt8) (h : eqB d.toList memL = true) : ByteArray.mk d = mB := by
  have := eqB_eq _ _ h
  unfold mB
  rw [← this]
theorem flat7_len (l : List Nat) : (l.flatMap hex7).length = 7 * l.length := by
  induction l with
  | nil => rfl
  | cons x l ih => rw [List.flatMap_cons, List.length_append, ih, List.length_cons]; simp [hex7]; omega
theorem flat7_at (l : List Nat) (g i : Nat) (hg : g < l.length) (hi : i < 7) : (l.flatMap hex7)[7 * g + i]? = (hex7 (l.getD g 0))[i]? := by
  induction l generalizing g with
  | nil => simp at hg
  | cons x l ih =>
    rw [List.flatMap_cons]
    cases g with
    | zero => rw [List.getElem?_append_left (by simp [hex7]; omega)]; simp
    | succ g =>
      rw [List.getElem?_append_right (by simp [hex7]; omega)]
      have e : 7 * (g + 1) + i - (hex7 x).length = 7 * g + i := by simp [hex7]; omega
      rw [e, ih g (by simpa using hg)]
      simp
theorem mB_size : mB.size = 2793 := by
  show memL.toArray.size = 2793
  rw [List.size_toArray, memL, flat7_len, G_len]
theorem mB_at (g i : Nat) (hg : g < 399) (hi : i < 7) (h : 7 * g + i < mB.size) : (mB[7 * g + i]'h) = hexLow (gr g / 16 ^ (6 - i) % 16) := by
  have h1 := flat7_at G g i (by rw [G_len]; exact hg) hi
  have e : (mB[7 * g + i]'h) = memL[7 * g + i]'h := mkB_get memL _ h
  rw [e]
  have h2 : memL[7 * g + i]? = (hex7 (gr g))[i]? := h1
  rw [List.getElem?_eq_getElem h] at h2
  have h7 : i = 0 ∨ i = 1 ∨ i = 2 ∨ i = 3 ∨ i = 4 ∨ i = 5 ∨ i = 6 := by omega
  rcases h7 with rfl | rfl | rfl | rfl | rfl | rfl | rfl <;> simpa [hex7] using h2
theorem hexLow_val (n : Nat) (h : n < 16) : ((hexLow n).toNat = 48 + n ∧ n < 10) ∨ ((hexLow n).toNat = 87 + n ∧ 10 ≤ n) := by
  have : ∀ n : Fin 16, ((hexLow n.val).toNat = 48 + n.val ∧ n.val < 10) ∨ ((hexLow n.val).toNat = 87 + n.val ∧ 10 ≤ n.val) := by decide
  exact this ⟨n, h⟩
theorem u32_or4 {x y : Int} (hy₀ : 0 ≤ y) (hy : y < 16) (hx₀ : 0 ≤ x) (hx : x < 134217728) : bits .or .u32 (x * 16) y = x * 16 + y :=
  bits_join .u32 32 (by decide) (fun n h0 h1 => by simp [IntKind.wrap, IntKind.bits, IntKind.signed]; omega) 4 (x * 16) y (by omega) (by omega) (by omega) hy₀ hy (by omega)

def GrpRel (g : Nat) (n i : Value) : Prop := ∃ j : Nat, j ≤ 7 ∧ i = .int .i64 ((7 * g + j : Nat) : Int) ∧ n = .int .u32 ((gr g / 16 ^ (7 - j) : Nat) : Int)
theorem Group_any (g : Nat) (hg : g < 399) (w : World) :
    Calls Tryd.prog 22 #[.int .i64 g] w fun e w' => e = .returned (.int .u32 (gr g)) ∧ Below w.heap.size w w' := by
  have hz := mB_size
  have hM : ∀ (i : Nat) (_ : i < 7) (h : 7 * g + i < mB.size), (mB[7 * g + i]'h) = hexLow (gr g / 16 ^ (6 - i) % 16) := fun i hi h => mB_at g i hg hi h
  refine calls_of_wp Tryd.func22 rfl ?_
  rw [litM]
  rotate_left
  kernel_rfl
  generalize mB = s at *
  simp only [Tryd.ntmps22, List.size_toArray, List.length_cons, List.length_nil, Nat.reduceAdd, Nat.reduceSub, Array.replicate_succ, Array.replicate_zero, List.push_toArray, List.append_toArray, List.nil_append, List.cons_append]
  go_wp2_with fail
  go_loop [3, 4] (fun n i => GrpRel g n i) (fun _ i => 7 * g + 7 - (intOf i).toNat)
  case atStart =>
    refine ⟨0, by omega, ?_, ?_⟩
    · congr 1; omega
    · have h28 := gr_lt g
      have : gr g / 16 ^ 7 = 0 := by omega
      show Value.int .u32 0 = _
      rw [show (7 : Nat) - 0 = 7 from rfl, this]; rfl
  case round =>
    obtain ⟨j, hj, rfl, rfl⟩ := hrel
    by_cases hj7 : j < 7
    · have hc := hM j hj7 (by omega)
      have hlt := gr_lt g
      have hstep : gr g / 16 ^ (7 - (j + 1)) = gr g / 16 ^ (7 - j) * 16 + gr g / 16 ^ (6 - j) % 16 := by
        rw [show 7 - (j + 1) = 6 - j by omega, show 7 - j = 6 - j + 1 by omega, Nat.pow_succ, ← Nat.div_div_eq_div_mul]
        generalize gr g / 16 ^ (6 - j) = y
        omega
      have hd16 : gr g / 16 ^ (6 - j) % 16 < 16 := Nat.mod_lt _ (by decide)
      have hv := hexLow_val _ hd16
      have hsm : gr g / 16 ^ (7 - j) < 16777216 := by
        rw [show 7 - j = 6 - j + 1 by omega, Nat.pow_succ, Nat.mul_comm, ← Nat.div_div_eq_div_mul]
        exact Nat.lt_of_le_of_lt (Nat.div_le_self _ _) (by omega)
      have Hs := Lib.hid hstep
      clear hstep hM
      generalize gr g / 16 ^ (6 - j) % 16 = d at *
      generalize hn1 : gr g / 16 ^ (7 - (j + 1)) = n1 at *
      have Hn1 := Lib.hid hn1
      clear hn1
      generalize gr g / 16 ^ (7 - j) = n0 at *
      have hcn : (s[7 * g + j]'(by omega)).toNat = (hexLow d).toNat := by rw [hc]
      generalize (hexLow d).toNat = c at *
      have hor : bits .or .u32 ((n0 : Int) * 16) d = (n0 : Int) * 16 + d := u32_or4 (by omega) (by omega) (by omega) (by omega)
      have hi0 : 0 ≤ ((7 * g + j : Nat) : Int) ∧ ((7 * g + j : Nat) : Int) < (s.size : Int) := by omega
      have hi1 : (((7 * g + j : Nat) : Int)).toNat = 7 * g + j := by omega
      clear hc
      rcases hv with ⟨hv, hd⟩ | ⟨hv, hd⟩
      · have hcd : (c : Int) - 48 = d := by omega
        go_wp2_with fail
        refine ⟨⟨j + 1, by omega, by congr 1, ?_⟩, ?_⟩
        · rw [Hn1.out, Hs.out, show (48 : Int) + d - 48 = (d : Int) by omega, hor]
          congr 1
        · simp [intOf]; omega
      · have hcd : (c : Int) - 39 - 48 = d := by omega
        go_wp2_with fail
        refine ⟨⟨j + 1, by omega, by congr 1, ?_⟩, ?_⟩
        · rw [Hn1.out, Hs.out, show (87 : Int) + d - 39 - 48 = (d : Int) by omega, hor]
          congr 1
        · simp [intOf]; omega
    · have hj2 : j = 7 := by omega
      subst hj2
      have h0 : gr g / 16 ^ (7 - 7) = gr g := by rw [Nat.sub_self, Nat.pow_zero, Nat.div_one]
      rw [h0]
      clear hj7 hM
      go_wp2_with fail
      go_ret
      exact ⟨rfl, Below.refl _ _⟩
end Go.Proofs.YtllmjlmeheohlaaDoor
