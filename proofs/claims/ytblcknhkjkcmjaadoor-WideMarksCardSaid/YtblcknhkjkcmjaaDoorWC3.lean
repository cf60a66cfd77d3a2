/- The card of WideMarks holds: the law returns true for every argument; condition: the tables that its row lists lie as laid. -/
import Derived.Test.YtblcknhkjkcmjaaDoorCard
import Derived.Test.YtblcknhkjkcmjaaDoorWL3
set_option maxRecDepth 100000
set_option maxHeartbeats 1000000
namespace Go.Proofs.YtblcknhkjkcmjaaDoor
open Go Go.Proofs Go.ChangeShapes Go.WideShapes Go.ChangeAt Go.RowKit

theorem wideMarks_reads (os : Os) {H : Type} (enc : TypeId × Value → H) : ∃ places, DataW.whole enc Tryd.prog ((World.laidAll Tryd.prog os Rows.wideMarksRow.laid).forCall (fun _ _ => 0) ⟨#[], #[.string ⟨#[]⟩], []⟩).memory Tryd.f10.params.toList Rows.wideMarksSpec.vars false #[(.string ⟨#[]⟩ : Value)].toList 8 = some ([.lit (.string [])], [], places) :=
  ⟨[], by kernel_rfl⟩
theorem wideMarks_met (os : Os) : laidMetH Tryd.prog Rows.wideMarksRow.laid ((World.laidAll Tryd.prog os Rows.wideMarksRow.laid).forCall (fun _ _ => 0) ⟨#[], #[.string ⟨#[]⟩], []⟩).memory := by
  rw [MakeChecks.laidMetH_plain _ _ _ (by kernel_rfl)]; exact laidMet_laidAll _ (by kernel_rfl) (by kernel_rfl)
theorem wideMarks_witness (os : Os) {H : Type} (enc : TypeId × Value → H) :
    ∃ (w : World) (tape : Tape) (i : Input), w.os = os ∧ (w.forCall tape i).Shaped Tryd.checked.prog ∧ i.vars = [] ∧ Input.okWide Tryd.checked.prog (w.forCall tape i) .any w.heap.size 10 i ∧
      (OpenSpec.ofChange Rows.wideMarksSpec).preRow enc Tryd.checked.prog Tryd.f10 Rows.wideMarksRow.domain false Rows.wideMarksRow.laid (w.forCall tape i).memory i.args ∧ ({} : Assume).holds Tryd.checked.prog (lone (Frame.enter Tryd.checked.prog 10 i.args .normal) [] (w.forCall tape i)) := by
  obtain ⟨places, hx⟩ := wideMarks_reads os enc
  exact witness_row_atRef (enc := enc) (C := Tryd.checked) false (World.laidAll Tryd.prog os Rows.wideMarksRow.laid) #[.string ⟨#[]⟩] (World.laidAll_os _ _ _) (by kernel_rfl) (by kernel_rfl) (by kernel_rfl)
    (OpenSpec.preRow_of_cond 8 hx (by kernel_rfl) (fun k hk => by cases hk) (by kernel_rfl) (wideMarks_met os))

theorem wideMarks_lifted (os : Os) (started : os.Started) (H : Type) (enc : TypeId × Value → H) (F : Stop.Interp) :
    ReturnsInHanded {} Tryd.checked os 10 .any ((OpenSpec.ofChange Rows.wideMarksSpec).preRow enc Tryd.prog Tryd.f10 Rows.wideMarksRow.domain false Rows.wideMarksRow.laid) (((OpenSpec.ofChange Rows.wideMarksSpec).at F).post enc Tryd.prog Tryd.f10 false true false false) := by
  refine returnsInHanded_of_row (C := Tryd.checked) (s := OpenSpec.ofChange Rows.wideMarksSpec) own started (by kernel_rfl) Tryd.func10 (wideMarks_witness os enc) ?_
  intro W base args ds gs before hval0 hW _ _ _ hL0 _ _
  have hL : laidMetH Tryd.prog Rows.wideMarksRow.laid W := hL0
  have hT : Tabs W := tabs_of hL (by kernel_rfl) (by simp [Rows.wideMarksRow]) (by simp [Rows.wideMarksRow])
  clear hL0 hL
  have hval : ∀ (j : Nat) t v, Tryd.f10.params[j]? = some t → args[j]? = some v → Value.okWide Tryd.prog W .any base t v := hval0
  have hW' : DataW.Whole enc Tryd.prog Tryd.f10.params.toList Rows.wideMarksSpec.vars false W args.toList ds gs before := hW
  obtain ⟨p, q, hA0, hV, rfl, hfz, hnd⟩ := hW
  have hA : DataW.TrodAll enc Tryd.prog W 0 (fun _ => true) true Tryd.f10.params.toList args.toList ds p := hA0
  rw [Tryd.params10] at hA hval
  obtain ⟨v0, d0, rfl, rfl, h0⟩ := trodAll_one hA
  obtain ⟨rfl, rfl⟩ := trodVars_none hV
  clear hA0 hval0
  have fin : ∀ W', Below W.heap.size W W' → ∃ v, Ending.returned (.bool true) = .returned v ∧ ((OpenSpec.ofChange Rows.wideMarksSpec).at F).post enc Tryd.prog Tryd.f10 false true false false W _ v W' :=
    fun W' hb => ⟨_, rfl, post_true laidOut rfl (by kernel_rfl) (by kernel_rfl) Tryd.underlying4 hW' rfl hb⟩
  clear hW' hfz hnd
  obtain ⟨s0, rfl, rfl, rfl, hs0⟩ := Go.ChangeMaps.open_string Tryd.underlying9 (hval 0 9 v0 rfl rfl) h0
  refine (wmarks_law s0 W hT).mono ?_
  rintro e W' ⟨rfl, hb⟩
  exact fin W' hb

theorem wideMarks_said : Rows.WideMarksSaid :=
  OpenClaim.holds_of_cond 10 Tryd.f10 rfl rfl rfl rfl rfl rfl rfl ⟨rfl, rfl, rfl, rfl, rfl⟩ rfl rfl rfl rfl rfl (by kernel_rfl) Tryd.func10 (by kernel_rfl)
    (of_decide_eq_true (by kernel_rfl)) (by unfold Func.isWrapper; first | (rw [if_pos (by decide +kernel)]; kernel_rfl) | (rw [if_neg (by decide +kernel)]; exact ⟨rfl, rfl⟩))
    (fun os started H enc _ F => by rw [OpenClaim.pre_eq_preRow]; exact wideMarks_lifted os started H enc F)

theorem wideMarks_plain (f : FuncId) (fn : Func) (hf : Tryd.pinned.checked.prog.funcNamed "diacritic/diacriticlaw03.WideMarks" = some f) (hfn : Tryd.pinned.checked.prog.funcs[f]? = some fn) :
    false = Tryd.pinned.checked.prog.looks [] ∧ ∀ (j : Nat) t, fn.params[j]? = some t → Tryd.pinned.checked.prog.wantsStandIn t = false := by
  obtain rfl : f = 10 := Option.some.inj ((show Tryd.prog.funcNamed "diacritic/diacriticlaw03.WideMarks" = some 10 by kernel_rfl).symm.trans hf) |>.symm
  obtain rfl : fn = Tryd.f10 := (Option.some.inj (Tryd.func10.symm.trans hfn)).symm
  refine ⟨by kernel_rfl, fun j t ht => ?_⟩
  rw [Tryd.params10] at ht
  have hm : t ∈ [9] := by simpa using Array.mem_of_getElem? ht
  have hall : ([9].all fun u => !Tryd.prog.wantsStandIn u) = true := by kernel_rfl
  exact (show Tryd.prog.wantsStandIn t = false by simpa using List.all_eq_true.1 hall t hm)

theorem wideMarks_card : Rows.WideMarksCardSaid :=
  Claim7.holds_tied_plain_at .later [] _ _ _ _ wideMarks_said (fun _ h => by cases h) (by kernel_rfl) (fun _ h => by cases h) wideMarks_row_tie rfl ⟨rfl, rfl⟩ (by kernel_rfl) rfl wideMarks_plain (by kernel_rfl)
#print axioms wideMarks_card
end Go.Proofs.YtblcknhkjkcmjaaDoor
