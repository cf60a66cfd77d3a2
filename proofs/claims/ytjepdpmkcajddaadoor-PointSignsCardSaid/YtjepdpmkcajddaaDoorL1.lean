/- The laws of layer 2, walked: PointSigns. -/
import Derived.Test.YtjepdpmkcajddaaDoorP6
namespace Go.Proofs.YtjepdpmkcajddaaDoor
open Go Go.RowKit
set_option maxRecDepth 100000
theorem signs_law (p : Int) (w : World) (hT : Tabs w) :
    Calls Tryd.prog 3 #[.int .i32 p] w fun e w' => e = .returned (.bool true) ∧ Below w.heap.size w w' := by
  cases hs : scalarB p with
  | true =>
    go_enter Tryd.func3, Tryd.ntmps3
    go_wp2_with (first | (go_at_call 8; refine (Text_one p hs _ _).mono ?_; rintro e w1 ⟨rfl, hb1⟩; have hB1 := below_a1 hb1; have hT1 := Tabs_below hT hB1 (Nat.le_refl _); have hz1 := hB1.size) | (go_at_call 9; refine (Scalar_any _ _).mono ?_; rintro e w' ⟨rfl, rfl⟩)  | (go_at_call 10; refine (RScalar_any _ _).mono ?_; rintro e w' ⟨rfl, rfl⟩) | (go_at_call 11; refine (awake_t _ hT1).mono ?_; rintro e w2 ⟨rfl, hb2⟩; have hB2 := hB1.trans (hb2.mono hz1); have hz2 := hB2.size)  | (go_at_call 12; refine (RBytes_any hs _).mono ?_; rintro e w3 ⟨rfl, hb3⟩; have hB3 := hB2.trans (hb3.mono hz2)))
    go_ret
    exact ⟨rfl, hB3⟩
  | false =>
    go_enter Tryd.func3, Tryd.ntmps3
    go_wp2_with (first | (go_at_call 8; refine (Text_no p hs _ _).mono ?_; rintro e w1 ⟨rfl, rfl⟩; have hT1 := tabs_alloc hT (.cells #[.int .i32 p] 21)) | (go_at_call 9; refine (Scalar_any _ _).mono ?_; rintro e w' ⟨rfl, rfl⟩)  | (go_at_call 10; refine (RScalar_any _ _).mono ?_; rintro e w' ⟨rfl, rfl⟩) | (go_at_call 11; refine (awake_t _ hT1).mono ?_; rintro e w2 ⟨rfl, hb2⟩; have hB2 := below_a1 hb2))
    go_ret
    exact ⟨rfl, hB2⟩
end Go.Proofs.YtjepdpmkcajddaaDoor
