/- A region that draws its order, walked by a plan with forks where two operations may come up in either order. Over any program. -/
import Derived.Test.YtlcgfgbdehdndaaDoorLin
namespace Go.Proofs.YtlcgfgbdehdndaaDoor
open Go

inductive Pl where
  | nil
  | one (i : Nat) (still : Bool) (r : Pl)
  | two (i j : Nat) (p q : Pl)
def Pl.depth : Pl → Nat
  | .nil => 0
  | .one _ _ r => r.depth + 1
  | .two _ _ p q => max p.depth q.depth + 1
def plOk (ops : Array Oper) : Pl → Array Bool → Bool
  | .nil, listed => (Region.ready .any ops listed).isEmpty
  | .one i true r, listed => (Region.ready .any ops listed).contains i && Region.free .any ops listed i && plOk ops r (listed.setIfInBounds i true)
  | .one i false r, listed => (Region.ready .any ops listed == [i]) && plOk ops r (listed.setIfInBounds i true)
  | .two i j p q, listed => (Region.ready .any ops listed == [i, j]) && plOk ops p (listed.setIfInBounds i true) && plOk ops q (listed.setIfInBounds j true)
section
variable {P : Program} {l : List Oper} {Q : Exit → Act → World → Prop} {S : World → Prop}
def wpEff (P : Program) (l : List Oper) (Q : Exit → Act → World → Prop) (S : World → Prop) (i : Nat) (R : Act → World → Prop) (a : Act) (w : World) : Prop :=
  ∃ o, nthOp l i = some o ∧ (if Region.wanted o (yielded l.toArray a.tmps) = true then o.wp P a w (fun a' w' => S w' ∧ R a' w') Q else R (a.put o.dst undef) w)
def wpPl (P : Program) (l : List Oper) (Q : Exit → Act → World → Prop) (S : World → Prop) : Pl → Act → World → Prop
  | .nil, a, w => Q .normal a w
  | .one i true r, a, w => ∃ o v, nthOp l i = some o ∧ YieldsIf P l.toArray S o v a ∧ wpPl P l Q S r (a.put o.dst v) w
  | .one i false r, a, w => wpEff P l Q S i (wpPl P l Q S r) a w
  | .two i j p q, a, w => wpEff P l Q S i (wpPl P l Q S p) a w ∧ wpEff P l Q S j (wpPl P l Q S q) a w
theorem op_of_eff {i : Nat} {R R' : Act → World → Prop} {a : Act} {w : World} (h : wpEff P l Q S i R a w) (hS : S w) (hR : ∀ a w, S w → R a w → R' a w) :
    wpEff P l Q S i R' a w := by
  obtain ⟨o, ho, hr⟩ := h
  refine ⟨o, ho, ?_⟩
  split
  · rename_i hw
    rw [if_pos hw] at hr
    exact Oper.wp_mono (fun a' w' hh => ⟨hh.1, hR _ _ hh.1 hh.2⟩) hr
  · rename_i hw
    rw [if_neg hw] at hr
    exact hR _ _ hS hr
theorem anyH_of_pl (hsel : Region.noSelect l.toArray = true) (hQ : ∀ c (a : Act) d v w, Q (.panic c) (a.put d v) w → Q (.panic c) a w) :
    ∀ (pl : Pl) (fuel : Nat) (listed : Array Bool) (a : Act) (w : World), plOk l.toArray pl listed = true → pl.depth ≤ fuel → S w → wpPl P l Q S pl a w → wpAnyH P .any l.toArray Q S fuel listed a w
  | .nil, fuel, listed, a, w, hok, _, _, h => wpAnyH_done (by simpa [plOk] using hok) h fuel
  | .one i b r, 0, listed, a, w, hok, hf, hS, h => by simp [Pl.depth] at hf
  | .two i j p q, 0, listed, a, w, hok, hf, hS, h => by simp [Pl.depth] at hf
  | .one i true r, fuel + 1, listed, a, w, hok, hf, hS, h => by
    obtain ⟨o, v, ho, hy, hr⟩ := h
    simp only [plOk, Bool.and_eq_true] at hok
    obtain ⟨⟨h1, h2⟩, h3⟩ := hok
    rw [nthOp_eq] at ho
    exact wpAnyH_take ho hsel h2 h1 (fun c a w => hQ c a _ _ w) hy hS (anyH_of_pl hsel hQ r fuel _ _ w h3 (by simpa [Pl.depth] using hf) hS hr)
  | .one i false r, fuel + 1, listed, a, w, hok, hf, hS, h => by
    simp only [plOk, Bool.and_eq_true, beq_iff_eq] at hok
    obtain ⟨h1, h3⟩ := hok
    refine wpAnyH_all h1 (by simp) fun j hj => ?_
    have hj' : j = i := by simpa using hj
    subst hj'
    obtain ⟨o, ho, hr⟩ := op_of_eff h hS (fun a w hS hr => anyH_of_pl hsel hQ r fuel _ a w h3 (by simpa [Pl.depth] using hf) hS hr)
    rw [nthOp_eq] at ho
    unfold wpOp
    rw [ho]
    simp only
    split
    · rename_i hw
      rw [if_pos hw] at hr
      exact .inl hr
    · rename_i hw
      rw [if_neg hw] at hr
      exact ⟨hS, hr⟩
  | .two i k p q, fuel + 1, listed, a, w, hok, hf, hS, h => by
    simp only [plOk, Bool.and_eq_true, beq_iff_eq] at hok
    obtain ⟨⟨h1, h3⟩, h4⟩ := hok
    have hd : max p.depth q.depth ≤ fuel := by simpa [Pl.depth] using hf
    refine wpAnyH_all h1 (by simp) fun j hj => ?_
    have hj' : j = i ∨ j = k := by simpa using hj
    rcases hj' with rfl | rfl
    · obtain ⟨o, ho, hr⟩ := op_of_eff h.1 hS (fun a w hS hr => anyH_of_pl hsel hQ p fuel _ a w h3 (by omega) hS hr)
      rw [nthOp_eq] at ho
      unfold wpOp
      rw [ho]
      simp only
      split
      · rename_i hw
        rw [if_pos hw] at hr
        exact .inl hr
      · rename_i hw
        rw [if_neg hw] at hr
        exact ⟨hS, hr⟩
    · obtain ⟨o, ho, hr⟩ := op_of_eff h.2 hS (fun a w hS hr => anyH_of_pl hsel hQ q fuel _ a w h4 (by omega) hS hr)
      rw [nthOp_eq] at ho
      unfold wpOp
      rw [ho]
      simp only
      split
      · rename_i hw
        rw [if_pos hw] at hr
        exact .inl hr
      · rename_i hw
        rw [if_neg hw] at hr
        exact ⟨hS, hr⟩
theorem wp_region_pl {id : Nat} {a : Act} {w : World} (S : World → Prop) (pl : Pl) (hm : P.follows .mixedOrders = true) (hsel : Region.noSelect l.toArray = true)
    (hok : plOk l.toArray pl (Array.replicate l.toArray.size false) = true) (hlen : pl.depth ≤ l.toArray.size)
    (hQ : ∀ c (a : Act) d v w, Q (.panic c) (a.put d v) w → Q (.panic c) a w) (hS : S w.drew) (h : wpPl P l Q S pl a w.drew) : (Code.region id l.toArray true).wp P Q a w :=
  wp_region_held_drew hm hS fun hS => anyH_of_pl hsel hQ pl _ _ a w.drew hok hlen hS h
theorem pl_nil {a : Act} {w : World} (h : Q .normal a w) : wpPl P l Q S .nil a w := h
theorem pl_skip {i : Nat} {r : Pl} {o : Oper} {a : Act} {w : World} (ho : nthOp l i = some o) (hw : Region.wanted o (yielded l.toArray a.tmps) = false) (h : wpPl P l Q S r (a.put o.dst undef) w) : wpPl P l Q S (.one i true r) a w :=
  ⟨o, undef, ho, .inr ⟨hw, rfl⟩, h⟩
theorem pl_pure {i : Nat} {r : Pl} {o : Oper} {a : Act} {w : World} (ho : nthOp l i = some o) (hw : Region.wanted o (yielded l.toArray a.tmps) = true) (v : Value) (hv : ∀ w, S w → (execOp a.eval o).run P w = .ok (.value v) w) (h : wpPl P l Q S r (a.put o.dst v) w) : wpPl P l Q S (.one i true r) a w :=
  ⟨o, v, ho, .inl ⟨hw, hv⟩, h⟩
theorem eff_of {i : Nat} {R : Act → World → Prop} {o : Oper} {a : Act} {w : World} (ho : nthOp l i = some o) (hw : Region.wanted o (yielded l.toArray a.tmps) = true)
    (h : ∀ K : Act → World → Prop, Shut (∀ a w, S w → R a w → K a w) → o.wp P a w K Q) : wpEff P l Q S i R a w :=
  ⟨o, ho, by rw [if_pos hw]; exact h _ (fun a w hS hr => ⟨hS, hr⟩)⟩
theorem pl_eff {i : Nat} {r : Pl} {a : Act} {w : World} (h : wpEff P l Q S i (wpPl P l Q S r) a w) : wpPl P l Q S (.one i false r) a w := h
theorem pl_two {i j : Nat} {p q : Pl} {a : Act} {w : World} (h1 : wpEff P l Q S i (wpPl P l Q S p) a w) (h2 : wpEff P l Q S j (wpPl P l Q S q) a w) : wpPl P l Q S (.two i j p q) a w := ⟨h1, h2⟩
end
end Go.Proofs.YtlcgfgbdehdndaaDoor
