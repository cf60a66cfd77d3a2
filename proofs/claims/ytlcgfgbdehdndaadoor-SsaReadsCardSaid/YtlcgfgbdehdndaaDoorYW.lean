/- LrcTexts holds; no condition. -/
import Derived.Test.YtlcgfgbdehdndaaDoorYV
import Derived.Test.YtlcgfgbdehdndaaDoorLin
set_option maxRecDepth 100000
set_option maxHeartbeats 4000000
namespace Go.Proofs.YtlcgfgbdehdndaaDoor
open Go Go.RowKit

def OneL (s : ByteArray) : Prop := ∀ x : Ln, (linesL s.data.toList)[0]? = some x → x.2.1 = []
def T1Rel (s : ByteArray) (w0 : World) (i : Value) (wr : World) : Prop := ∃ k : Nat, k ≤ s.size ∧ i = .int .i64 k ∧ (∀ j, j < k → ∀ h : j < s.size, smB s[j] = true) ∧ Below w0.heap.size w0 wr
def T2Rel (s0 s2 : ByteArray) (w0 : World) (i : Value) (wr : World) : Prop := ∃ k : Nat, k ≤ 2 ∧ i = .int .i64 k ∧ (1 ≤ k → OneL s0) ∧ (2 ≤ k → OneL s2) ∧ Below (w0.heap.size + 1) (w0.alloc (.cells #[.string s0, .string s2] 9)) wr
def T3Rel (s : ByteArray) (w0 : World) (i : Value) (wr : World) : Prop := ∃ k : Nat, k ≤ s.size ∧ i = .int .i64 k ∧ (∀ j, j < k → ∀ h : j < s.size, s[j] ≠ 93) ∧ Below w0.heap.size w0 wr
theorem RLines_nil (s : ByteArray) (hs : s.size ≤ 1000000) (h : linesL s.data.toList = []) (w : World) :
    Calls Tryd.prog 13 #[.string s] w fun e w' => e = .returned (.slice none 0 0) ∧ Below w.heap.size w w' := (RLines_any s hs w).mono fun e w' ⟨v, h1, h2, h3⟩ => by
  rw [h] at h2
  rcases h2 with ⟨_, rfl⟩ | ⟨_, _, h4, _⟩
  · exact ⟨h1, h3⟩
  · exact absurd rfl h4
theorem RLines_one (s : ByteArray) (hs : s.size ≤ 1000000) (x : Ln) (h : linesL s.data.toList = [x]) (w : World) :
    Calls Tryd.prog 13 #[.string s] w fun e w' => ∃ bk c : Nat, e = .returned (.slice (some ⟨bk, 0, none⟩) 1 c) ∧ 1 ≤ c ∧ bk < w'.heap.size ∧ w'.cell? ⟨bk, 1, none⟩ = some (.string (B x.2.1)) ∧ Below w.heap.size w w' := (RLines_any s hs w).mono fun e w' ⟨v, h1, h2, h3⟩ => by
  rw [h] at h2
  rcases h2 with ⟨h4, _⟩ | ⟨bk, c, _, rfl, h6, h7, h8⟩
  · cases h4
  · exact ⟨bk, c, h1, h6, h7, h8 1 _ rfl, h3⟩
theorem RLines_many (s : ByteArray) (hs : s.size ≤ 1000000) (x y : Ln) (l : List Ln) (h : linesL s.data.toList = x :: y :: l) (w : World) :
    Calls Tryd.prog 13 #[.string s] w fun e w' => ∃ bk c : Nat, e = .returned (.slice (some ⟨bk, 0, none⟩) (l.length + 2) c) ∧ Below w.heap.size w w' := (RLines_any s hs w).mono fun e w' ⟨v, h1, h2, h3⟩ => by
  rw [h] at h2
  rcases h2 with ⟨h4, _⟩ | ⟨bk, c, _, rfl, h6, h7, h8⟩
  · cases h4
  · exact ⟨bk, c, h1, h3⟩
theorem Bad0 (w : World) : Calls Tryd.prog 23 #[.agg #[.int .i64 0, .int .i64 0]] w fun e w' => e = .returned (.bool false) ∧ Below w.heap.size w w' := by
  go_enter Tryd.func23, Tryd.ntmps23
  go_wp2_with fail
  go_ret
  exact ⟨rfl, (Below.refl _ w).alloc (Nat.le_refl _) _⟩
theorem keepT {W w' w'' : World} {a0 a1 a2 a3 a4 a5 a6 a7 : Addr} {v0 v1 v2 v3 v4 v5 v6 v7 : Value} (h : ((w'.cell? a0 = some v0 ∧ w'.cell? a1 = some v1) ∧ (w'.cell? a2 = some v2 ∧ w'.cell? a3 = some v3 ∧ w'.cell? a4 = some v4) ∧ (w'.cell? a5 = some v5 ∧ w'.cell? a6 = some v6 ∧ w'.cell? a7 = some v7)) ∧ Below W.heap.size W w') (hb : Below w'.heap.size w' w'') :
    ((w''.cell? a0 = some v0 ∧ w''.cell? a1 = some v1) ∧ (w''.cell? a2 = some v2 ∧ w''.cell? a3 = some v3 ∧ w''.cell? a4 = some v4) ∧ (w''.cell? a5 = some v5 ∧ w''.cell? a6 = some v6 ∧ w''.cell? a7 = some v7)) ∧ Below W.heap.size W w'' :=
  ⟨⟨⟨cell_keepR h.1.1.1 hb, cell_keepR h.1.1.2 hb⟩, ⟨cell_keepR h.1.2.1.1 hb, cell_keepR h.1.2.1.2.1 hb, cell_keepR h.1.2.1.2.2 hb⟩, ⟨cell_keepR h.1.2.2.1 hb, cell_keepR h.1.2.2.2.1 hb, cell_keepR h.1.2.2.2.2 hb⟩⟩, h.2.trans (hb.mono h.2.size)⟩
end Go.Proofs.YtlcgfgbdehdndaaDoor
