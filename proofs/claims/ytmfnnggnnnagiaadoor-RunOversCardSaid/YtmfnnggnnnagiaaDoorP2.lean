/- Contracts: point.Text: signs as bytes, or none. -/
import Derived.Test.YtmfnnggnnnagiaaDoorP1
import Derived.Test.YtmfnnggnnnagiaaDoorA2
namespace Go.Proofs.YtmfnnggnnnagiaaDoor
open Go Go.RowKit

theorem runeLen_enc {p : Int} (h : scalarB p = true) : Lib.runeLen p = (Lib.encodeRune p).length := by
  unfold Lib.runeLen
  rcases four_cases h with ⟨h0, h1⟩ | ⟨h0, h1⟩ | h3 | ⟨h0, h1⟩
  · rw [enc_one h0 h1]; simp only [List.length_cons, List.length_nil]; repeat' split
    all_goals omega
  · rw [enc_two h0 h1]; simp only [List.length_cons, List.length_nil]; repeat' split
    all_goals omega
  · rw [enc_three h3]; simp only [List.length_cons, List.length_nil]; repeat' split
    all_goals omega
  · rw [enc_four h0 h1]; simp only [List.length_cons, List.length_nil]; repeat' split
    all_goals omega
def textZ (ps : List Int) : List Int := ps.flatMap Lib.encodeRuneZ
theorem textZ_snoc (a : List Int) (p : Int) : textZ (a ++ [p]) = textZ a ++ Lib.encodeRuneZ p := by simp [textZ]
theorem textZ_len (ps : List Int) : (textZ ps).length = (textL ps).length := by
  induction ps with
  | nil => rfl
  | cons p ps ih =>
    rw [textL_cons, List.length_append, ← ih]
    simp [textZ, Lib.encodeRune]
theorem strOfNums_text (ps : List Int) : strOfNums (textZ ps) = ⟨(textL ps).toArray⟩ := by
  unfold strOfNums
  congr 2
  induction ps with
  | nil => rfl
  | cons p ps ih =>
    rw [textL_cons, ← ih]
    simp [textZ, Lib.encodeRune]

/-- The number at a place of a slice of numbers. -/
theorem Nums.get {w : World} {B : Nat} {k : IntKind} {A : Option Addr} {zs : List Int} {i : Nat} (h : Nums w B k A zs) (hi : i < zs.length) :
    ∃ ad p, A = some ad ∧ ad.block < B ∧ w.cell? (ad.add i) = some (.int k p) ∧ Hid (zs.getD i 0 = p) ∧ p ∈ zs := by
  obtain ⟨ad, e, hb, hc⟩ := h.at_ hi
  exact ⟨ad, _, e, hb, hc, rfl, getD_mem hi⟩

theorem byte_info : (Tryd.prog.info? 5).map (fun i => (i.zero, i.size, i.bytes)) = some (some (.int .u8 0), 1, 1) := by kernel_rfl
theorem rune_info : (Tryd.prog.info? 21).map (fun i => (i.zero, i.size, i.bytes)) = some (some (.int .i32 0), 1, 4) := by kernel_rfl

def TextRel (ps : List Int) (w0 : World) (b i : Value) (wr : World) : Prop :=
  ∃ k : Nat, k ≤ ps.length ∧ i = .int .i64 k ∧ wr.ownsRow w0.heap.size 5 1 b (textZ (ps.take k)).length ((textZ (ps.take k)).map (Value.int .u8)) ∧ Below w0.heap.size w0 wr


def SizeRel (ps : List Int) (sz i : Value) : Prop := ∃ k : Nat, k ≤ ps.length ∧ i = .int .i64 k ∧ sz = .int .i64 (textL (ps.take k)).length

def AllRel (ps : List Int) (i : Value) : Prop := ∃ k : Nat, k ≤ ps.length ∧ i = .int .i64 k ∧ ∀ p ∈ ps.take k, scalarB p = true

end Go.Proofs.YtmfnnggnnnagiaaDoor
