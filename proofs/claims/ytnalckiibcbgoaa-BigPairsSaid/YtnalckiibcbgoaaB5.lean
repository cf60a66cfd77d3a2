/- Contracts of big5.code, big5.one; condition: bytes. -/
import Derived.Test.YtnalckiibcbgoaaB4
import Derived.Test.YtnalckiibcbgoaaOB
set_option maxRecDepth 100000
set_option maxHeartbeats 1000000
namespace Go.Proofs.Ytnalckiibcbgoaa
open Go Go.RowKit

theorem Code_any (l s : Int) (hl : 0 ≤ l ∧ l ≤ 255) (hs : 0 ≤ s ∧ s ≤ 255) (w : World) :
    Calls Try.prog 22 #[.int .i64 l, .int .i64 s] w fun e w' => e = .returned (.string ⟨#[l.toNat.toUInt8, s.toNat.toUInt8]⟩) ∧ Below w.heap.size w w' := by
  obtain ⟨l0, l1⟩ := hl
  obtain ⟨s0, s1⟩ := hs
  have hor : bits .or .i64 (l * 256) s = l * 256 + s := i64_or8 s0 (by omega) l0 (by omega)
  have e1 : (l * 256 + s) / 256 = l := by omega
  have e2 : (l * 256 + s) % 256 = s := by omega
  have hb := fun w => Big2 (l * 256 + s) (by omega) (by omega) w
  rw [e1, e2] at hb
  clear e1 e2
  go_enter Try.func22, Try.ntmps22
  go_wp2_with (first | (go_at_call 37; refine (hb _).mono ?_; rintro e w1 ⟨rfl, hb1⟩))
  go_ret
  exact ⟨rfl, hb1⟩
end Go.Proofs.Ytnalckiibcbgoaa
