/- The card of RunLooks holds: the law returns true for every argument; condition: the tables that its row lists lie as laid. -/
import Derived.Test.YtmfnnggnnnagiaaDoorCard
import Derived.Test.YtmfnnggnnnagiaaDoorRW
import Derived.Test.YtmfnnggnnnagiaaDoorRCp
set_option maxRecDepth 100000
set_option maxHeartbeats 1000000
namespace Go.Proofs.YtmfnnggnnnagiaaDoor
open Go Go.Proofs Go.ChangeShapes Go.WideShapes Go.ChangeAt Go.RowKit

theorem runLooks_reads (os : Os) {H : Type} (enc : TypeId × Value → H) : ∃ places, DataW.whole enc Tryd.prog ((World.laidAll Tryd.prog os Rows.runLooksRow.laid).forCall (fun _ _ => 0) ⟨#[], #[.slice none 0 0, .int .i64 0, .int .i32 0], []⟩).memory Tryd.f3.params.toList Rows.runLooksSpec.vars false #[(.slice none 0 0 : Value), (.int .i64 0 : Value), (.int .i32 0 : Value)].toList 8 = some ([.nil, .lit (.int .i64 0), .lit (.int .i32 0)], [], places) :=
  ⟨[], by kernel_rfl⟩
theorem runLooks_met (os : Os) : laidMetH Tryd.prog Rows.runLooksRow.laid ((World.laidAll Tryd.prog os Rows.runLooksRow.laid).forCall (fun _ _ => 0) ⟨#[], #[.slice none 0 0, .int .i64 0, .int .i32 0], []⟩).memory := by
  rw [MakeChecks.laidMetH_plain _ _ _ (by kernel_rfl)]; exact laidMet_laidAll _ (by kernel_rfl) (by kernel_rfl)
theorem runLooks_witness (os : Os) {H : Type} (enc : TypeId × Value → H) :
    ∃ (w : World) (tape : Tape) (i : Input), w.os = os ∧ (w.forCall tape i).Shaped Tryd.checked.prog ∧ i.vars = [] ∧ Input.okWide Tryd.checked.prog (w.forCall tape i) .any w.heap.size 3 i ∧
      (OpenSpec.ofChange Rows.runLooksSpec).preRow enc Tryd.checked.prog Tryd.f3 Rows.runLooksRow.domain false Rows.runLooksRow.laid (w.forCall tape i).memory i.args ∧ ({} : Assume).holds Tryd.checked.prog (lone (Frame.enter Tryd.checked.prog 3 i.args .normal) [] (w.forCall tape i)) := by
  obtain ⟨places, hx⟩ := runLooks_reads os enc
  exact witness_row_atRef (enc := enc) (C := Tryd.checked) false (World.laidAll Tryd.prog os Rows.runLooksRow.laid) #[.slice none 0 0, .int .i64 0, .int .i32 0] (World.laidAll_os _ _ _) (by kernel_rfl) (by kernel_rfl) (by kernel_rfl)
    (OpenSpec.preRow_of_cond 8 hx (by kernel_rfl) (fun k hk => by cases hk) (by kernel_rfl) (runLooks_met os))

theorem runLooks_lifted (os : Os) (started : os.Started) (H : Type) (enc : TypeId × Value → H) (F : Stop.Interp) :
    ReturnsInHanded {} Tryd.checked os 3 .any ((OpenSpec.ofChange Rows.runLooksSpec).preRow enc Tryd.prog Tryd.f3 Rows.runLooksRow.domain false Rows.runLooksRow.laid) (((OpenSpec.ofChange Rows.runLooksSpec).at F).post enc Tryd.prog Tryd.f3 false true false false) := by
  refine returnsInHanded_of_row (C := Tryd.checked) (s := OpenSpec.ofChange Rows.runLooksSpec) own started (by kernel_rfl) Tryd.func3 (runLooks_witness os enc) ?_
  intro W base args ds gs before hval0 hW _ _ _ hL0 _ _
  have hL : laidMetH Tryd.prog Rows.runLooksRow.laid W := hL0
  have hT : Tabs W := tabs_of hL (by kernel_rfl) (by simp [Rows.runLooksRow]) (by simp [Rows.runLooksRow])
  clear hL0 hL
  have hval : ∀ (j : Nat) t v, Tryd.f3.params[j]? = some t → args[j]? = some v → Value.okWide Tryd.prog W .any base t v := hval0
  have hW' : DataW.Whole enc Tryd.prog Tryd.f3.params.toList Rows.runLooksSpec.vars false W args.toList ds gs before := hW
  obtain ⟨p, q, hA0, hV, rfl, hfz, hnd⟩ := hW
  have hA : DataW.TrodAll enc Tryd.prog W 0 (fun _ => true) true Tryd.f3.params.toList args.toList ds p := hA0
  rw [Tryd.params3] at hA hval
  have hA1 := hA
  obtain ⟨v0, vs0, d0, ds0, p0, q0, e0, rfl, rfl, h0, hr1⟩ := trodAll_cons hA1
  try subst e0
  obtain ⟨v1, vs1, d1, ds1, p1, q1, e1, rfl, rfl, h1, hr2⟩ := trodAll_cons hr1
  try subst e1
  obtain ⟨v2, vs2, d2, ds2, p2, q2, e2, rfl, rfl, h2, hr3⟩ := trodAll_cons hr2
  try subst e2
  obtain ⟨rfl, rfl, rfl⟩ := trodAll_nil hr3
  obtain rfl : args = #[v0, v1, v2] := by cases args; simp_all
  obtain ⟨rfl, rfl⟩ := trodVars_none hV
  clear hA0 hval0
  have fin : ∀ W', Below W.heap.size W W' → ∃ v, Ending.returned (.bool true) = .returned v ∧ ((OpenSpec.ofChange Rows.runLooksSpec).at F).post enc Tryd.prog Tryd.f3 false true false false W _ v W' :=
    fun W' hb => ⟨_, rfl, post_true laidOut rfl (by kernel_rfl) (by kernel_rfl) Tryd.underlying4 hW' rfl hb⟩
  clear hW' hfz hnd
  obtain ⟨a0, l0, c0, rfl⟩ := okWide_slice Tryd.underlying22 (hval 0 22 v0 rfl rfl)
  obtain ⟨fuel0, hf0⟩ := h0
  obtain ⟨A0, k0, ps0, hc0, hok0, hp0⟩ := open_pcs hf0
  simp [Value.cells] at hc0
  obtain ⟨rfl, rfl, rfl⟩ := hc0
  clear hf0
  obtain ⟨x1, rfl, rfl, rfl, wx1⟩ := open_int Tryd.underlying3 (hval 1 3 v1 rfl rfl) h1
  obtain ⟨x2, rfl, rfl, rfl, wx2⟩ := open_int Tryd.underlying21 (hval 2 21 v2 rfl rfl) h2
  refine (RunLooks_law ps0 a0 c0 x1 x2 (wf32 wx2) hok0 W hT hp0).mono ?_
  rintro e W' ⟨rfl, hb⟩
  exact fin W' hb

theorem runLooks_said : Rows.RunLooksSaid :=
  OpenClaim.holds_of_cond 3 Tryd.f3 rfl rfl rfl rfl rfl rfl rfl ⟨rfl, rfl, rfl, rfl, rfl⟩ rfl rfl rfl rfl rfl (by kernel_rfl) Tryd.func3 (by kernel_rfl)
    (of_decide_eq_true (by kernel_rfl)) (by unfold Func.isWrapper; first | (rw [if_pos (by decide +kernel)]; kernel_rfl) | (rw [if_neg (by decide +kernel)]; exact ⟨rfl, rfl⟩))
    (fun os started H enc _ F => by rw [OpenClaim.pre_eq_preRow]; exact runLooks_lifted os started H enc F)

theorem runLooks_plain (f : FuncId) (fn : Func) (hf : Tryd.pinned.checked.prog.funcNamed "diacritic/diacriticlaw04.RunLooks" = some f) (hfn : Tryd.pinned.checked.prog.funcs[f]? = some fn) :
    false = Tryd.pinned.checked.prog.looks [] ∧ ∀ (j : Nat) t, fn.params[j]? = some t → Tryd.pinned.checked.prog.wantsStandIn t = false := by
  obtain rfl : f = 3 := Option.some.inj ((show Tryd.prog.funcNamed "diacritic/diacriticlaw04.RunLooks" = some 3 by kernel_rfl).symm.trans hf) |>.symm
  obtain rfl : fn = Tryd.f3 := (Option.some.inj (Tryd.func3.symm.trans hfn)).symm
  refine ⟨by kernel_rfl, fun j t ht => ?_⟩
  rw [Tryd.params3] at ht
  have hm : t ∈ [22, 3, 21] := by simpa using Array.mem_of_getElem? ht
  have hall : ([22, 3, 21].all fun u => !Tryd.prog.wantsStandIn u) = true := by kernel_rfl
  exact (show Tryd.prog.wantsStandIn t = false by simpa using List.all_eq_true.1 hall t hm)

theorem runLooks_card : Rows.RunLooksCardSaid :=
  Claim7.holds_tied_plain_at .later [] _ _ _ _ runLooks_said (fun _ h => by cases h) (by kernel_rfl) (fun _ h => by cases h) runLooks_row_tie rfl ⟨rfl, rfl⟩ (by kernel_rfl) rfl runLooks_plain (by kernel_rfl)
#print axioms runLooks_card
end Go.Proofs.YtmfnnggnnnagiaaDoor
