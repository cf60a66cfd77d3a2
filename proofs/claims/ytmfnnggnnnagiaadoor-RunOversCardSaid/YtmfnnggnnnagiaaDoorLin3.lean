/- A region that draws its order, walked by the states between which its effects lead, each state once. Over any program. -/
import Derived.Test.YtmfnnggnnnagiaaDoorLin2
namespace Go.Proofs.YtmfnnggnnnagiaaDoor
open Go

section
variable {P : Program} {l : List Oper} {Q : Exit → Act → World → Prop} {S : World → Prop}
theorem anyH_take1 {i : Nat} {o : Oper} {listed : Array Bool} {fuel : Nat} {a : Act} {w : World} (hsel : Region.noSelect l.toArray = true) (hQ : ∀ c (a : Act) d v w, Q (.panic c) (a.put d v) w → Q (.panic c) a w)
    (ho : nthOp l i = some o) (hw : Region.wanted o (yielded l.toArray a.tmps) = true) (v : Value) (hv : ∀ w, S w → (execOp a.eval o).run P w = .ok (.value v) w)
    (h1 : (Region.ready .any l.toArray listed).contains i = true) (h2 : Region.free .any l.toArray listed i = true) (hS : S w)
    (h : wpAnyH P .any l.toArray Q S fuel (listed.setIfInBounds i true) (a.put o.dst v) w) : wpAnyH P .any l.toArray Q S (fuel + 1) listed a w := by
  rw [nthOp_eq] at ho
  exact wpAnyH_take ho hsel h2 h1 (fun c a w => hQ c a _ _ w) (.inl ⟨hw, hv⟩) hS h
theorem anyH_of_states (hsel : Region.noSelect l.toArray = true) (hQ : ∀ c (a : Act) d v w, Q (.panic c) (a.put d v) w → Q (.panic c) a w) {σ : Type}
    (R : σ → Act → World → Prop) (listed : σ → Array Bool) (rank : σ → Nat) (fin : σ → Bool) (pl : List (Nat × Bool))
    (hready : ∀ s, fin s = false → Region.ready .any l.toArray (listed s) ≠ [] ∧ 0 < rank s)
    (hstep : ∀ s a w, fin s = false → S w → R s a w → ∀ j, j ∈ Region.ready .any l.toArray (listed s) → wpEff P l Q S j (fun a' w' => ∃ s', listed s' = (listed s).setIfInBounds j true ∧ rank s' < rank s ∧ R s' a' w') a w)
    (hfin : ∀ s a w, fin s = true → S w → R s a w → linOk l.toArray pl (listed s) = true ∧ wpLin P l Q S pl a w) :
    ∀ (n : Nat) (s : σ) (a : Act) (w : World) (fuel : Nat), rank s ≤ n → n + pl.length ≤ fuel → S w → R s a w → wpAnyH P .any l.toArray Q S fuel (listed s) a w
  | n, s, a, w, fuel, hn, hf, hS, hR => by
    cases hfi : fin s with
    | true =>
      obtain ⟨h1, h2⟩ := hfin s a w hfi hS hR
      exact anyH_of_lin hsel hQ pl fuel _ a w h1 (by omega) hS h2
    | false =>
      obtain ⟨h1, h2⟩ := hready s hfi
      obtain ⟨m, rfl⟩ : ∃ m, n = m + 1 := ⟨n - 1, by omega⟩
      obtain ⟨g, rfl⟩ : ∃ g, fuel = g + 1 := ⟨fuel - 1, by omega⟩
      refine wpAnyH_all rfl h1 fun j hj => ?_
      obtain ⟨o, ho, hr⟩ := op_of_eff (hstep s a w hfi hS hR j hj) hS (R' := fun a' w' => wpAnyH P .any l.toArray Q S g ((listed s).setIfInBounds j true) a' w') (fun a' w' hS' hh => by
        obtain ⟨s', e1, e2, e3⟩ := hh
        rw [← e1]
        exact anyH_of_states hsel hQ R listed rank fin pl hready hstep hfin m s' a' w' g (by omega) (by omega) hS' e3)
      rw [nthOp_eq] at ho
      unfold wpOp
      rw [ho]
      simp only
      split
      · rename_i hw
        rw [if_pos hw] at hr
        exact .inl hr
      · rename_i hw
        rw [if_neg hw] at hr
        exact ⟨hS, hr⟩
end
end Go.Proofs.YtmfnnggnnnagiaaDoor
