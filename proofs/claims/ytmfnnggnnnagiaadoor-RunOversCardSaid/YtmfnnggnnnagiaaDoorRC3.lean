/- The card of RunOvers holds: the law returns true for every argument; condition: the tables that its row lists lie as laid. -/
import Derived.Test.YtmfnnggnnnagiaaDoorCard
import Derived.Test.YtmfnnggnnnagiaaDoorRZ
import Derived.Test.YtmfnnggnnnagiaaDoorRCp
set_option maxRecDepth 100000
set_option maxHeartbeats 1000000
namespace Go.Proofs.YtmfnnggnnnagiaaDoor
open Go Go.Proofs Go.ChangeShapes Go.WideShapes Go.ChangeAt Go.RowKit

theorem runOvers_reads (os : Os) {H : Type} (enc : TypeId × Value → H) : ∃ places, DataW.whole enc Tryd.prog ((World.laidAll Tryd.prog os Rows.runOversRow.laid).forCall (fun _ _ => 0) ⟨#[], #[.slice none 0 0, .slice none 0 0, .slice none 0 0, .int .i64 0, .int .i32 0], []⟩).memory Tryd.f5.params.toList Rows.runOversSpec.vars false #[(.slice none 0 0 : Value), (.slice none 0 0 : Value), (.slice none 0 0 : Value), (.int .i64 0 : Value), (.int .i32 0 : Value)].toList 8 = some ([.nil, .nil, .nil, .lit (.int .i64 0), .lit (.int .i32 0)], [], places) :=
  ⟨[], by kernel_rfl⟩
theorem runOvers_met (os : Os) : laidMetH Tryd.prog Rows.runOversRow.laid ((World.laidAll Tryd.prog os Rows.runOversRow.laid).forCall (fun _ _ => 0) ⟨#[], #[.slice none 0 0, .slice none 0 0, .slice none 0 0, .int .i64 0, .int .i32 0], []⟩).memory := by
  rw [MakeChecks.laidMetH_plain _ _ _ (by kernel_rfl)]; exact laidMet_laidAll _ (by kernel_rfl) (by kernel_rfl)
theorem runOvers_witness (os : Os) {H : Type} (enc : TypeId × Value → H) :
    ∃ (w : World) (tape : Tape) (i : Input), w.os = os ∧ (w.forCall tape i).Shaped Tryd.checked.prog ∧ i.vars = [] ∧ Input.okWide Tryd.checked.prog (w.forCall tape i) .any w.heap.size 5 i ∧
      (OpenSpec.ofChange Rows.runOversSpec).preRow enc Tryd.checked.prog Tryd.f5 Rows.runOversRow.domain false Rows.runOversRow.laid (w.forCall tape i).memory i.args ∧ ({} : Assume).holds Tryd.checked.prog (lone (Frame.enter Tryd.checked.prog 5 i.args .normal) [] (w.forCall tape i)) := by
  obtain ⟨places, hx⟩ := runOvers_reads os enc
  exact witness_row_atRef (enc := enc) (C := Tryd.checked) false (World.laidAll Tryd.prog os Rows.runOversRow.laid) #[.slice none 0 0, .slice none 0 0, .slice none 0 0, .int .i64 0, .int .i32 0] (World.laidAll_os _ _ _) (by kernel_rfl) (by kernel_rfl) (by kernel_rfl)
    (OpenSpec.preRow_of_cond 8 hx (by kernel_rfl) (fun k hk => by cases hk) (by kernel_rfl) (runOvers_met os))

theorem runOvers_lifted (os : Os) (started : os.Started) (H : Type) (enc : TypeId × Value → H) (F : Stop.Interp) :
    ReturnsInHanded {} Tryd.checked os 5 .any ((OpenSpec.ofChange Rows.runOversSpec).preRow enc Tryd.prog Tryd.f5 Rows.runOversRow.domain false Rows.runOversRow.laid) (((OpenSpec.ofChange Rows.runOversSpec).at F).post enc Tryd.prog Tryd.f5 false true false false) := by
  refine returnsInHanded_of_row (C := Tryd.checked) (s := OpenSpec.ofChange Rows.runOversSpec) own started (by kernel_rfl) Tryd.func5 (runOvers_witness os enc) ?_
  intro W base args ds gs before hval0 hW _ _ _ hL0 _ _
  have hL : laidMetH Tryd.prog Rows.runOversRow.laid W := hL0
  have hT : Tabs W := tabs_of hL (by kernel_rfl) (by simp [Rows.runOversRow]) (by simp [Rows.runOversRow])
  clear hL0 hL
  have hval : ∀ (j : Nat) t v, Tryd.f5.params[j]? = some t → args[j]? = some v → Value.okWide Tryd.prog W .any base t v := hval0
  have hW' : DataW.Whole enc Tryd.prog Tryd.f5.params.toList Rows.runOversSpec.vars false W args.toList ds gs before := hW
  obtain ⟨p, q, hA0, hV, rfl, hfz, hnd⟩ := hW
  have hA : DataW.TrodAll enc Tryd.prog W 0 (fun _ => true) true Tryd.f5.params.toList args.toList ds p := hA0
  rw [Tryd.params5] at hA hval
  have hA1 := hA
  obtain ⟨v0, vs0, d0, ds0, p0, q0, e0, rfl, rfl, h0, hr1⟩ := trodAll_cons hA1
  try subst e0
  obtain ⟨v1, vs1, d1, ds1, p1, q1, e1, rfl, rfl, h1, hr2⟩ := trodAll_cons hr1
  try subst e1
  obtain ⟨v2, vs2, d2, ds2, p2, q2, e2, rfl, rfl, h2, hr3⟩ := trodAll_cons hr2
  try subst e2
  obtain ⟨v3, vs3, d3, ds3, p3, q3, e3, rfl, rfl, h3, hr4⟩ := trodAll_cons hr3
  try subst e3
  obtain ⟨v4, vs4, d4, ds4, p4, q4, e4, rfl, rfl, h4, hr5⟩ := trodAll_cons hr4
  try subst e4
  obtain ⟨rfl, rfl, rfl⟩ := trodAll_nil hr5
  obtain rfl : args = #[v0, v1, v2, v3, v4] := by cases args; simp_all
  obtain ⟨rfl, rfl⟩ := trodVars_none hV
  clear hA0 hval0
  have fin : ∀ W', Below W.heap.size W W' → ∃ v, Ending.returned (.bool true) = .returned v ∧ ((OpenSpec.ofChange Rows.runOversSpec).at F).post enc Tryd.prog Tryd.f5 false true false false W _ v W' :=
    fun W' hb => ⟨_, rfl, post_true laidOut rfl (by kernel_rfl) (by kernel_rfl) Tryd.underlying4 hW' rfl hb⟩
  clear hW' hfz hnd
  obtain ⟨a0, l0, c0, rfl⟩ := okWide_slice Tryd.underlying22 (hval 0 22 v0 rfl rfl)
  obtain ⟨fuel0, hf0⟩ := h0
  obtain ⟨A0, k0, ps0, hc0, hok0, hp0⟩ := open_pcs hf0
  simp [Value.cells] at hc0
  obtain ⟨rfl, rfl, rfl⟩ := hc0
  clear hf0
  obtain ⟨a1, l1, c1, rfl⟩ := okWide_slice Tryd.underlying22 (hval 1 22 v1 rfl rfl)
  obtain ⟨fuel1, hf1⟩ := h1
  obtain ⟨A1, k1, ps1, hc1, hok1, hp1⟩ := open_pcs hf1
  simp [Value.cells] at hc1
  obtain ⟨rfl, rfl, rfl⟩ := hc1
  clear hf1
  obtain ⟨a2, l2, c2, rfl⟩ := okWide_slice Tryd.underlying22 (hval 2 22 v2 rfl rfl)
  obtain ⟨fuel2, hf2⟩ := h2
  obtain ⟨A2, k2, ps2, hc2, hok2, hp2⟩ := open_pcs hf2
  simp [Value.cells] at hc2
  obtain ⟨rfl, rfl, rfl⟩ := hc2
  clear hf2
  obtain ⟨x3, rfl, rfl, rfl, wx3⟩ := open_int Tryd.underlying3 (hval 3 3 v3 rfl rfl) h3
  obtain ⟨x4, rfl, rfl, rfl, wx4⟩ := open_int Tryd.underlying21 (hval 4 21 v4 rfl rfl) h4
  refine (RunOvers_law ps0 ps1 ps2 a0 a1 a2 c0 c1 c2 x3 x4 (wf32 wx4) hok0 hok1 hok2 W hT hp0 hp1 hp2).mono ?_
  rintro e W' ⟨rfl, hb⟩
  exact fin W' hb

theorem runOvers_said : Rows.RunOversSaid :=
  OpenClaim.holds_of_cond 5 Tryd.f5 rfl rfl rfl rfl rfl rfl rfl ⟨rfl, rfl, rfl, rfl, rfl⟩ rfl rfl rfl rfl rfl (by kernel_rfl) Tryd.func5 (by kernel_rfl)
    (by as_aux_lemma => exact of_decide_eq_true (by kernel_rfl)) (by as_aux_lemma => unfold Func.isWrapper; first | (rw [if_pos (by decide +kernel)]; kernel_rfl) | (rw [if_neg (by decide +kernel)]; exact ⟨rfl, rfl⟩))
    (fun os started H enc _ F => by rw [OpenClaim.pre_eq_preRow]; exact runOvers_lifted os started H enc F)

theorem runOvers_plain (f : FuncId) (fn : Func) (hf : Tryd.pinned.checked.prog.funcNamed "diacritic/diacriticlaw04.RunOvers" = some f) (hfn : Tryd.pinned.checked.prog.funcs[f]? = some fn) :
    false = Tryd.pinned.checked.prog.looks [] ∧ ∀ (j : Nat) t, fn.params[j]? = some t → Tryd.pinned.checked.prog.wantsStandIn t = false := by
  obtain rfl : f = 5 := Option.some.inj ((show Tryd.prog.funcNamed "diacritic/diacriticlaw04.RunOvers" = some 5 by kernel_rfl).symm.trans hf) |>.symm
  obtain rfl : fn = Tryd.f5 := (Option.some.inj (Tryd.func5.symm.trans hfn)).symm
  refine ⟨by kernel_rfl, fun j t ht => ?_⟩
  rw [Tryd.params5] at ht
  have hm : t ∈ [22, 22, 22, 3, 21] := by simpa using Array.mem_of_getElem? ht
  have hall : ([22, 22, 22, 3, 21].all fun u => !Tryd.prog.wantsStandIn u) = true := by kernel_rfl
  exact (show Tryd.prog.wantsStandIn t = false by simpa using List.all_eq_true.1 hall t hm)

theorem runOvers_card : Rows.RunOversCardSaid :=
  Claim7.holds_tied_plain_at .later [] _ _ _ _ runOvers_said (fun _ h => by cases h) (by kernel_rfl) (fun _ h => by cases h) runOvers_row_tie rfl ⟨rfl, rfl⟩ (by kernel_rfl) rfl runOvers_plain (by kernel_rfl)
#print axioms runOvers_card
end Go.Proofs.YtmfnnggnnnagiaaDoor
