/- A region that draws its order, walked in ONE order: what yields its value in every world that meets S is taken as soon as it may come up, the rest wait for one another. Over any program. -/
import Derived.OrdersHeld
import Derived.Deep.RegionHeld
import Derived.Deep.RegionHeld3
namespace Go.Proofs.YtpnjandlpbjddabDoor
open Go

/-- The i-th operation, so that it is laid open by unfolding. -/
def nthOp : List Oper → Nat → Option Oper
  | [], _ => none
  | o :: _, 0 => some o
  | _ :: l, i + 1 => nthOp l i
theorem nthOp_eq : ∀ (l : List Oper) (i : Nat), nthOp l i = l.toArray[i]?
  | [], i => by simp [nthOp]
  | o :: l, 0 => by simp [nthOp]
  | o :: l, i + 1 => by
    have := nthOp_eq l i
    simp only [nthOp, this]
    simp

def linOk (ops : Array Oper) : List (Nat × Bool) → Array Bool → Bool
  | [], listed => (Region.ready .any ops listed).isEmpty
  | (i, true) :: r, listed => (Region.ready .any ops listed).contains i && Region.free .any ops listed i && linOk ops r (listed.setIfInBounds i true)
  | (i, false) :: r, listed => (Region.ready .any ops listed == [i]) && linOk ops r (listed.setIfInBounds i true)

section
variable {P : Program} {l : List Oper} {Q : Exit → Act → World → Prop} {S : World → Prop}

def wpLin (P : Program) (l : List Oper) (Q : Exit → Act → World → Prop) (S : World → Prop) : List (Nat × Bool) → Act → World → Prop
  | [], a, w => Q .normal a w
  | (i, true) :: r, a, w => ∃ o v, nthOp l i = some o ∧ YieldsIf P l.toArray S o v a ∧ wpLin P l Q S r (a.put o.dst v) w
  | (i, false) :: r, a, w => ∃ o, nthOp l i = some o ∧ (if Region.wanted o (yielded l.toArray a.tmps) = true then o.wp P a w (fun a' w' => S w' ∧ wpLin P l Q S r a' w') Q else wpLin P l Q S r (a.put o.dst undef) w)

theorem anyH_of_lin (hsel : Region.noSelect l.toArray = true) (hQ : ∀ c (a : Act) d v w, Q (.panic c) (a.put d v) w → Q (.panic c) a w) :
    ∀ (pl : List (Nat × Bool)) (fuel : Nat) (listed : Array Bool) (a : Act) (w : World), linOk l.toArray pl listed = true → pl.length ≤ fuel → S w → wpLin P l Q S pl a w → wpAnyH P .any l.toArray Q S fuel listed a w
  | [], fuel, listed, a, w, hok, _, _, h => wpAnyH_done (by simpa [linOk] using hok) h fuel
  | (i, true) :: r, 0, listed, a, w, hok, hf, hS, h => by simp at hf
  | (i, false) :: r, 0, listed, a, w, hok, hf, hS, h => by simp at hf
  | (i, true) :: r, fuel + 1, listed, a, w, hok, hf, hS, h => by
    obtain ⟨o, v, ho, hy, hr⟩ := h
    simp only [linOk, Bool.and_eq_true] at hok
    obtain ⟨⟨h1, h2⟩, h3⟩ := hok
    rw [nthOp_eq] at ho
    exact wpAnyH_take ho hsel h2 h1 (fun c a w => hQ c a _ _ w) hy hS (anyH_of_lin hsel hQ r fuel _ _ w h3 (by simpa using hf) hS hr)
  | (i, false) :: r, fuel + 1, listed, a, w, hok, hf, hS, h => by
    obtain ⟨o, ho, hr⟩ := h
    simp only [linOk, Bool.and_eq_true, beq_iff_eq] at hok
    obtain ⟨h1, h3⟩ := hok
    rw [nthOp_eq] at ho
    refine wpAnyH_all h1 (by simp) fun j hj => ?_
    have hj' : j = i := by simpa using hj
    subst hj'
    unfold wpOp
    rw [ho]
    simp only
    split
    · rename_i hw
      rw [if_pos hw] at hr
      exact .inl (Oper.wp_mono (fun a' w' hh => ⟨hh.1, anyH_of_lin hsel hQ r fuel _ a' w' h3 (by simpa using hf) hh.1 hh.2⟩) hr)
    · rename_i hw
      rw [if_neg hw] at hr
      exact ⟨hS, anyH_of_lin hsel hQ r fuel _ _ w h3 (by simpa using hf) hS hr⟩

/-- THE BEGINNING. -/
theorem wp_region_lin {id : Nat} {a : Act} {w : World} (S : World → Prop) (pl : List (Nat × Bool)) (hm : P.follows .mixedOrders = true) (hsel : Region.noSelect l.toArray = true)
    (hok : linOk l.toArray pl (Array.replicate l.toArray.size false) = true) (hlen : pl.length ≤ l.toArray.size)
    (hQ : ∀ c (a : Act) d v w, Q (.panic c) (a.put d v) w → Q (.panic c) a w) (hS : S w.drew) (h : wpLin P l Q S pl a w.drew) : (Code.region id l.toArray true).wp P Q a w :=
  wp_region_held_drew hm hS fun hS => anyH_of_lin hsel hQ pl _ _ a w.drew hok hlen hS h
theorem lin_nil {a : Act} {w : World} (h : Q .normal a w) : wpLin P l Q S [] a w := h
theorem lin_skip {i : Nat} {r : List (Nat × Bool)} {o : Oper} {a : Act} {w : World} (ho : nthOp l i = some o) (hw : Region.wanted o (yielded l.toArray a.tmps) = false) (h : wpLin P l Q S r (a.put o.dst undef) w) : wpLin P l Q S ((i, true) :: r) a w :=
  ⟨o, undef, ho, .inr ⟨hw, rfl⟩, h⟩
theorem lin_pure {i : Nat} {r : List (Nat × Bool)} {o : Oper} {a : Act} {w : World} (ho : nthOp l i = some o) (hw : Region.wanted o (yielded l.toArray a.tmps) = true) (v : Value) (hv : ∀ w, S w → (execOp a.eval o).run P w = .ok (.value v) w) (h : wpLin P l Q S r (a.put o.dst v) w) : wpLin P l Q S ((i, true) :: r) a w :=
  ⟨o, v, ho, .inl ⟨hw, hv⟩, h⟩
theorem lin_eff {i : Nat} {r : List (Nat × Bool)} {o : Oper} {a : Act} {w : World} (ho : nthOp l i = some o) (hw : Region.wanted o (yielded l.toArray a.tmps) = true)
    (h : ∀ K : Act → World → Prop, Shut (∀ a w, S w → wpLin P l Q S r a w → K a w) → o.wp P a w K Q) : wpLin P l Q S ((i, false) :: r) a w :=
  ⟨o, ho, by rw [if_pos hw]; exact h _ (fun a w hS hr => ⟨hS, hr⟩)⟩
end
end Go.Proofs.YtpnjandlpbjddabDoor
