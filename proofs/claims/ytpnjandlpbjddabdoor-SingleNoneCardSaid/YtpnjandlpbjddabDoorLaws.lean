/- Small laws of the model's operations, over any program: a row of bytes as a string. -/
import Derived.Test.YtpnjandlpbjddabDoorMem
import Derived.WalkKit
import Derived.Lib.RuneBytes
namespace Go.Proofs.YtpnjandlpbjddabDoor
open Go Go.RowKit
section
variable {P : Program}
theorem conv_nums (src dst e : TypeId) (hs : P.underlying src = some (.slice e)) (he : P.underlying e = some (.int .u8)) (hd : P.underlying dst = some .string) (w : World) {B : Nat} {A : Option Addr} {zs : List Int} (h : Nums w B .u8 A zs) (c : Nat) :
    (convert src dst (.slice A zs.length c)).run P w = .ok (.string (strOfNums zs)) w := by
  by_cases h0 : 0 < zs.length
  · obtain ⟨ad, rfl, _, hc⟩ := h.2 h0
    have hl : (loadCells ad zs.length).run P w = .ok (zs.map (Value.int .u8)).toArray w := by
      have := run_loadCells_list (P := P) w ad (zs.map (Value.int .u8)) hc
      simpa using this
    rw [run_convert_bytes_string w src dst e _ _ c hs he hd, run_bytesToString w _ _ c zs hl, foldl_push_bytes]
    simp [strOfNums, ByteArray.empty, ByteArray.emptyWithCapacity]
    rfl
  · have hz : zs = [] := List.eq_nil_of_length_eq_zero (by omega)
    subst hz
    rw [run_convert_bytes_string w src dst e _ _ c hs he hd]
    cases A with
    | none => simp [Conv.bytesToString, strOfNums]; rfl
    | some ad =>
      have hl : (loadCells ad 0).run P w = .ok ([].map (Value.int .u8)).toArray w := run_loadCells_list (P := P) w ad [] (by simp)
      rw [show (([] : List Int).length) = 0 from rfl, run_bytesToString w ad 0 c [] hl]
      simp [strOfNums, ByteArray.empty, ByteArray.emptyWithCapacity]
      rfl
theorem conv_own (src dst e : TypeId) (hs : P.underlying src = some (.slice e)) (he : P.underlying e = some (.int .u8)) (hd : P.underlying dst = some .string) (w : World) {base : Nat} {v : Value} {n : Nat} {zs : List Int} (h : w.ownsRow base e 1 v n (zs.map (Value.int .u8))) :
    (convert src dst v).run P w = .ok (.string (strOfNums zs)) w := by
  obtain ⟨A, c, rfl, _, _, hn⟩ := Nums.of_own h
  exact conv_nums src dst e hs he hd w hn c
theorem nums_new (w : World) (e : TypeId) (zs : List Int) (k : IntKind) : Nums (w.alloc (.cells (zs.map (Value.int k)).toArray e)) (w.heap.size + 1) k (some ⟨w.heap.size, 0, none⟩) zs := by
  refine ⟨by simp, fun _ => ⟨_, rfl, by simp, fun j u hu => ?_⟩⟩
  have hadd : (⟨w.heap.size, 0, none⟩ : Addr).add j = ⟨w.heap.size, j, none⟩ := by unfold Addr.add; split <;> simp_all
  rw [hadd, cell_of_row _ w.heap.size j _ e (0, 0) (heap_alloc_new w _)]
  simpa using hu
variable (src dst e : TypeId) (hs : P.underlying src = some (.slice e)) (he : P.underlying e = some (.int .u8)) (hd : P.underlying dst = some .string)
include hs he hd
theorem conv1 (w : World) (a : Int) (c : Nat) : (convert src dst (.slice (some ⟨w.heap.size, 0, none⟩) 1 c)).run P (w.alloc (.cells #[.int .u8 a] e)) = .ok (.string (strOfNums [a])) (w.alloc (.cells #[.int .u8 a] e)) :=
  conv_nums src dst e hs he hd _ (nums_new w e [a] .u8) c
theorem conv2 (w : World) (a b : Int) (c : Nat) : (convert src dst (.slice (some ⟨w.heap.size, 0, none⟩) 2 c)).run P (w.alloc (.cells #[.int .u8 a, .int .u8 b] e)) = .ok (.string (strOfNums [a, b])) (w.alloc (.cells #[.int .u8 a, .int .u8 b] e)) :=
  conv_nums src dst e hs he hd _ (nums_new w e [a, b] .u8) c
theorem conv3 (w : World) (a b d : Int) (c : Nat) : (convert src dst (.slice (some ⟨w.heap.size, 0, none⟩) 3 c)).run P (w.alloc (.cells #[.int .u8 a, .int .u8 b, .int .u8 d] e)) = .ok (.string (strOfNums [a, b, d])) (w.alloc (.cells #[.int .u8 a, .int .u8 b, .int .u8 d] e)) :=
  conv_nums src dst e hs he hd _ (nums_new w e [a, b, d] .u8) c
theorem conv4 (w : World) (a b d f : Int) (c : Nat) : (convert src dst (.slice (some ⟨w.heap.size, 0, none⟩) 4 c)).run P (w.alloc (.cells #[.int .u8 a, .int .u8 b, .int .u8 d, .int .u8 f] e)) = .ok (.string (strOfNums [a, b, d, f])) (w.alloc (.cells #[.int .u8 a, .int .u8 b, .int .u8 d, .int .u8 f] e)) :=
  conv_nums src dst e hs he hd _ (nums_new w e [a, b, d, f] .u8) c
end
theorem strOfNums_enc (p : Int) : strOfNums (Lib.encodeRuneZ p) = ⟨(Lib.encodeRune p).toArray⟩ := by
  unfold strOfNums Lib.encodeRune
  congr 1
end Go.Proofs.YtpnjandlpbjddabDoor
