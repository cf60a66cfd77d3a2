/- Contracts: package point's scan, and what stands on it (Check, Count); Fault.Bad. -/
import Derived.Test.YtlcgfgbdehdndaaDoorRows
import Derived.Test.YtlcgfgbdehdndaaDoorLaws
import Derived.Test.YtlcgfgbdehdndaaDoorMathR
import Derived.WalkKit
import Derived.WalkSpells
import Derived.Outline
import Derived.Deep.DeepFit
namespace Go.Proofs.YtlcgfgbdehdndaaDoor
open Go Go.RowKit

def Tabs (w : World) : Prop := Lib.Utf8Tabs 1 2 w

theorem Bad_any (e a : Int) (w : World) :
    Calls Tryd.prog 23 #[.agg #[.int .i64 e, .int .i64 a]] w fun x w' => x = .returned (.bool (e != 0)) ∧ Below w.heap.size w w' := by
  go_enter Tryd.func23, Tryd.ntmps23
  go_wp2
  go_ret
  exact ⟨rfl, (Below.refl _ _).alloc (Nat.le_refl _) _⟩

theorem Dec_good (s : ByteArray) (i : Nat) (p : Int) (t : List UInt8) (hd : s.data.toList.drop i = Lib.encodeRune p ++ t) (hp : scalarB p = true) (w : World) (hT : Tabs w) :
    Calls Tryd.prog 76 #[.string (s.extract i s.size)] w fun e w' => e = .returned (.tuple #[.int .i32 p, .int .i64 (Lib.encodeRune p).length]) ∧ Below w.heap.size w w' := by
  have hi : i < s.size := by
    have h1 := congrArg List.length hd
    have h2 := (enc_len p).1
    have h4 : s.data.toList.length = s.size := by simp
    rw [List.length_drop, List.length_append, h4] at h1
    omega
  have h := Tryd.utf8_DecodeRuneInString (s.extract i s.size) w hT
  rw [dec_ext s i hi, hd, decL_enc hp] at h
  have e : ((p.toNat : Nat) : Int) = p := by have := scalarB_iff.1 hp; omega
  simp only [e] at h
  exact h
theorem Dec_bad (s : ByteArray) (i : Nat) (hi : i < s.size) (hd : errD (decL (s.data.toList.drop i))) (w : World) (hT : Tabs w) :
    Calls Tryd.prog 76 #[.string (s.extract i s.size)] w fun e w' => (∃ n : Nat, n ≤ 1 ∧ e = .returned (.tuple #[.int .i32 65533, .int .i64 n])) ∧ Below w.heap.size w w' := by
  have h := Tryd.utf8_DecodeRuneInString (s.extract i s.size) w hT
  rw [dec_ext s i hi] at h
  refine h.mono fun e w' ⟨he, hb⟩ => ⟨⟨_, hd.2, ?_⟩, hb⟩
  rw [he, hd.1]; rfl

theorem Tabs_below {w w' : World} (h : Tabs w) {B : Nat} (hb : Below B w w') (hB : w.heap.size ≤ B) : Tabs w' := Utf8Tabs_below h (hb.mono hB)

def ScanRel (ps : List Int) (w0 : World) (n at_ : Value) (wr : World) : Prop :=
  ∃ k i : Nat, n = .int .i64 k ∧ at_ = .int .i64 i ∧ Run ps k i ∧ Below (w0.heap.size + 1) (w0.alloc (.cells #[.int .i64 0, .int .i64 0] 26)) wr


theorem Dec_step {s : ByteArray} {ps : List Int} {k i n : Nat} {p : Int} (h : Step s ps k i p n) (w : World) (hT : Tabs w) :
    Calls Tryd.prog 76 #[.string (s.extract i s.size)] w fun e w' => e = .returned (.tuple #[.int .i32 p, .int .i64 n]) ∧ Below w.heap.size w w' := by
  obtain ⟨⟨t, ht⟩, hn, _, hs⟩ := h
  subst hn
  exact Dec_good s i p t ht hs w hT

theorem tabs_alloc {w : World} (h : Tabs w) (o : Obj) : Tabs (w.alloc o) := Tabs_below h ((Below.refl _ _).alloc (Nat.le_refl _) _) (Nat.le_refl _)

end Go.Proofs.YtlcgfgbdehdndaaDoor
