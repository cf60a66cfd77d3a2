/- Contracts of lrc.Pieces and Parse; condition: at most 100,000 bytes. -/
import Derived.Test.YtlcgfgbdehdndaaDoorYK
import Derived.Test.YtlcgfgbdehdndaaDoorYGL
set_option maxRecDepth 100000
set_option maxHeartbeats 4000000
namespace Go.Proofs.YtlcgfgbdehdndaaDoor
open Go Go.RowKit

def nText : List UInt8 := [116, 101, 120, 116]
def timesF : Nat → List UInt8 → List Pc × List UInt8
  | 0, r => ([], r)
  | f + 1, r => if timeN r = 0 then ([], r) else (mk (r.take (timeN r)) :: (timesF f (r.drop (timeN r))).1, (timesF f (r.drop (timeN r))).2)
def tailP (r : List UInt8) : List Pc := if r = [] then [] else [(false, nText, r)]
/-- A line's pieces; none: it has no form. -/
def lrcL (s : List UInt8) : Option (List Pc) :=
  if s = [] then some [] else if (timesF s.length s).1 = [] then noteL s else some ((timesF s.length s).1 ++ tailP (timesF s.length s).2)
theorem timesF_end (f : Nat) (r : List UInt8) (h : timeN r = 0) : timesF f r = ([], r) := by
  cases f with
  | zero => rfl
  | succ f => simp [timesF, h]
def PsRel (t : List UInt8) (w0 : World) (v rest n : Value) (wr : World) : Prop := ∃ (acc : List Pc) (rb : ByteArray) (f : Nat), rest = .string rb ∧ n = .int .i64 (timeN rb.data.toList) ∧ timesF t.length t = (acc ++ (timesF f rb.data.toList).1, (timesF f rb.data.toList).2) ∧ rb.size ≤ f ∧ acc.length + rb.size ≤ t.length ∧ wr.ownsRow w0.heap.size 54 3 v acc.length (acc.flatMap pcV) ∧ (acc = [] → v = .slice none 0 0) ∧ Below w0.heap.size w0 wr
theorem lrc_len (f : Nat) : ∀ r : List UInt8, (timesF f r).1.length + (timesF f r).2.length ≤ r.length := by
  induction f with
  | zero => intro r; simp [timesF]
  | succ f ih =>
    intro r
    unfold timesF
    by_cases h : timeN r = 0
    · rw [if_pos h]; simp
    · rw [if_neg h]
      have h1 := ih (r.drop (timeN r))
      have h2 := timeN_rng r
      rw [List.length_drop] at h1
      simp only [List.length_cons]
      omega
theorem lrcL_len (s : List UInt8) (ps : List Pc) (h : lrcL s = some ps) : ps.length ≤ 4 * s.length + 4 := by
  unfold lrcL at h
  split at h
  · simp only [Option.some.injEq] at h; subst h; simp
  · split at h
    · unfold noteL at h
      split at h
      · simp only [Option.some.injEq] at h; subst h; simp
      · cases h
    · simp only [Option.some.injEq] at h
      subst h
      have := lrc_len s.length s
      rw [List.length_append]
      unfold tailP
      split <;> simp <;> omega
end Go.Proofs.YtlcgfgbdehdndaaDoor
