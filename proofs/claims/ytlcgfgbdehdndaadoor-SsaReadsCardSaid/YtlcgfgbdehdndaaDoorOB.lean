/- Contract of octet.Big at two bytes, for every number below 65,536. -/
import Derived.Test.YtlcgfgbdehdndaaDoorLaws
import Derived.WalkKit
import Derived.WalkSpells
import Derived.Outline
import Derived.Deep.DeepFit
import Derived.Test.YtlcgfgbdehdndaaDoorRows
import Derived.Lib.EndianBits
set_option maxRecDepth 100000
set_option maxHeartbeats 1000000
namespace Go.Proofs.YtlcgfgbdehdndaaDoor
open Go Go.RowKit

theorem Width2 (w : World) : Calls Tryd.prog 70 #[.int .i64 2] w fun e w' => e = .returned (.int .i64 2) ∧ w = w' := by
  go_enter Tryd.func70, Tryd.ntmps70
  go_wp2
  go_ret
  exact ⟨rfl, rfl⟩
theorem make2 (w : World) : (Instr.makeSlice 79 (.int .i64 2) (.int .i64 2)).run Tryd.prog w = .ok (.slice (some ⟨w.heap.size, 0, none⟩) 2 2) (w.alloc (.cells #[.int .u8 0, .int .u8 0] 5)) := by
  kernel_rfl
theorem Big2 (n : Int) (h0 : 0 ≤ n) (h1 : n ≤ 65535) (w : World) :
    Calls Tryd.prog 52 #[.int .u64 n, .int .i64 2] w fun e w' => e = .returned (.string ⟨#[(n / 256).toNat.toUInt8, (n % 256).toNat.toUInt8]⟩) ∧ Below w.heap.size w w' := by
  have hmk := make2
  go_enter Tryd.func52, Tryd.ntmps52
  go_wp2_with (first | (go_at_call 70; refine (Width2 _).mono ?_; rintro e w' ⟨rfl, rfl⟩))
  refine wp_loop_rounds 3 ?_
  rw [rounds_succ]
  go_wp2_with fail
  rw [rounds_succ]
  go_wp2_with fail
  have hcv := conv2 (P := Tryd.prog) 79 9 5 Tryd.underlying79 Tryd.underlying5 Tryd.underlying9 w (n / 256) (n % 256) 2
  rw [rounds_succ]
  go_wp2_with fail
  go_ret
  exact ⟨rfl, (Below.refl _ w).alloc (Nat.le_refl _) _⟩
theorem i64_or8 {x y : Int} (hy₀ : 0 ≤ y) (hy : y < 256) (hx₀ : 0 ≤ x) (hx : x < 8388608) : bits .or .i64 (x * 256) y = x * 256 + y :=
  bits_join .i64 63 (by decide) (fun n h0 h1 => by simp [IntKind.wrap, IntKind.bits, IntKind.signed]; omega) 8 (x * 256) y (by omega) (by omega) (by omega) hy₀ hy (by omega)
end Go.Proofs.YtlcgfgbdehdndaaDoor
