/- Pieces as rows; a table of pieces (newF) and the document's (madeF) are the same pairs, or fail at the same piece. No program in sight. -/
import Derived.Test.YtpnjandlpbjddabDoorRA
set_option maxRecDepth 100000
set_option maxHeartbeats 1000000
namespace Go.Proofs.YtpnjandlpbjddabDoor
open Go

/-- From, To, Count, Text, and the text's signs. -/
abbrev Pce := Int × Int × Int × ByteArray × Option (List Int)
def PceOk (p : Pce) : Prop := (match p.2.2.2.2 with
  | some ps => Good p.2.2.2.1 ps
  | none => ∃ n, BadAt p.2.2.2.1 n) ∧ (-9223372036854775808 ≤ p.1 ∧ p.1 < 9223372036854775808) ∧ (-2147483648 ≤ p.2.1 ∧ p.2.1 < 2147483648) ∧ (-9223372036854775808 ≤ p.2.2.1 ∧ p.2.2.1 < 9223372036854775808)
def rowOf (p : Pce) : Option Rw :=
  if p.2.2.2.1.size ≠ 0 then
    match p.2.2.2.2 with
    | some ps => if 0 ≤ p.1 ∧ p.1 + ps.length ≤ 1048576 then some (p.1.toNat, ps.length, 0, some ps) else none
    | none => none
  else if 0 ≤ p.1 ∧ 1 ≤ p.2.2.1 ∧ p.1 + p.2.2.1 ≤ 1048576 ∧ scalarB p.2.1 = true ∧ scalarB (p.2.1 + p.2.2.1 - 1) = true ∧ (p.2.1 < 55296 ↔ p.2.1 + p.2.2.1 - 1 < 55296) then some (p.1.toNat, p.2.2.1.toNat, p.2.1, none)
  else none
theorem scalar_rng {p : Int} (h : scalarB p = true) : 0 ≤ p ∧ p ≤ 1114111 := by
  unfold scalarB at h
  simp only [decide_eq_true_eq] at h
  omega
theorem good_pos {s : ByteArray} {ps : List Int} (h : Good s ps) (hs : s.size ≠ 0) : 1 ≤ ps.length := by
  cases ps with
  | nil => exact absurd h.size hs
  | cons _ _ => simp
theorem rowOf_ok {p : Pce} {r : Rw} (hp : PceOk p) (h : rowOf p = some r) : RwOk r := by
  unfold rowOf at h
  split at h
  · rename_i hs
    obtain ⟨hg, _⟩ := hp
    generalize p.2.2.2.2 = q at *
    cases q with
    | none => cases h
    | some ps =>
      simp only at h hg
      split at h
      · injection h with h
        subst h
        have h1 := good_pos hg hs
        refine ⟨h1, by simp; omega, rfl, rfl, fun x hx => scalar_rng (hg.2 x hx)⟩
      · cases h
  · split at h
    · rename_i hc
      injection h with h
      subst h
      have h1 := scalar_rng hc.2.2.2.1
      have h2 := scalar_rng hc.2.2.2.2.1
      refine ⟨by simp; omega, by simp; omega, by simp; omega, by simp; omega⟩
    · cases h
def ovl (acc : List Rw) (r : Rw) : Bool := acc.any fun q => decide (q.1 < r.1 + r.2.1) && decide (r.1 < q.1 + q.2.1)
def newF : List Rw → List Pce → Nat → List Rw ⊕ Nat
  | acc, [], _ => .inl acc
  | acc, p :: l, i => match rowOf p with
    | none => .inr i
    | some r => if ovl acc r = true then .inr i else newF (acc ++ [r]) l (i + 1)
def madeF : List Pr → List Pce → Nat → List Pr ⊕ Nat
  | acc, [], _ => .inl acc
  | acc, p :: l, i => match rowOf p with
    | none => .inr i
    | some r => match joinL acc (prs r) with
      | none => .inr i
      | some a => madeF a l (i + 1)
def Apart (a b : Rw) : Prop := a.1 + a.2.1 ≤ b.1 ∨ b.1 + b.2.1 ≤ a.1
/-- Rows, one beside the other, and their pairs by rising codes. -/
def Told (rs : List Rw) (L : List Pr) : Prop := rs.Pairwise Apart ∧ (∀ r ∈ rs, RwOk r) ∧ Srt L ∧ ∀ x, x ∈ L ↔ ∃ r ∈ rs, x ∈ prs r
theorem ovl_iff {rs : List Rw} {L : List Pr} {r : Rw} (h : Told rs L) (hr : RwOk r) : ovl rs r = (prs r).any fun m => hasC L m.1 := by
  obtain ⟨_, hok, _, hm⟩ := h
  have h1 := hr.1
  rw [Bool.eq_iff_iff, ovl, List.any_eq_true, List.any_eq_true]
  constructor
  · rintro ⟨q, hq, hc⟩
    simp only [Bool.and_eq_true, decide_eq_true_eq] at hc
    have h2 := (hok q hq).1
    have hx : max q.1 r.1 < r.1 + r.2.1 ∧ max q.1 r.1 < q.1 + q.2.1 := by omega
    refine ⟨(max q.1 r.1, sgAt r (max q.1 r.1 - r.1)), mem_prs.2 ⟨by simp; omega, by simp; omega, rfl⟩, hasC_iff.2 ⟨(max q.1 r.1, sgAt q (max q.1 r.1 - q.1)), (hm _).2 ⟨q, hq, mem_prs.2 ⟨by simp; omega, by simp; omega, rfl⟩⟩, rfl⟩⟩
  · rintro ⟨x, hx, hc⟩
    obtain ⟨y, hy, e⟩ := hasC_iff.1 hc
    obtain ⟨q, hq, hyq⟩ := (hm y).1 hy
    have a := mem_prs.1 hx
    have b := mem_prs.1 hyq
    refine ⟨q, hq, ?_⟩
    simp only [Bool.and_eq_true, decide_eq_true_eq]
    omega
theorem told_step {rs : List Rw} {L : List Pr} {r : Rw} (h : Told rs L) (hr : RwOk r) (hn : ovl rs r = false) : Told (rs ++ [r]) ((prs r).foldl putL L) := by
  have ho := ovl_iff h hr
  obtain ⟨hp, hok, hs, hm⟩ := h
  have hd : ∀ m ∈ prs r, ∀ x ∈ L, x.1 ≠ m.1 := fun m hm' x hx e => by
    rw [hn] at ho
    have := List.any_eq_false.1 ho.symm m hm'
    exact this (hasC_iff.2 ⟨x, hx, e⟩)
  obtain ⟨a, b⟩ := fold_put (prs r) L hs (prs_srt r) hd
  refine ⟨?_, ?_, a, fun x => ?_⟩
  · rw [List.pairwise_append]
    refine ⟨hp, by simp, fun q hq s hs' => ?_⟩
    simp only [List.mem_singleton] at hs'
    subst hs'
    have := List.any_eq_false.1 hn q hq
    simp only [Bool.and_eq_true, decide_eq_true_eq, not_and] at this
    unfold Apart
    omega
  · intro q hq
    rcases List.mem_append.1 hq with h | h
    · exact hok q h
    · simp only [List.mem_singleton] at h; subst h; exact hr
  · rw [b, hm]
    constructor
    · rintro (⟨q, hq, h⟩ | h)
      · exact ⟨q, by simp [hq], h⟩
      · exact ⟨r, by simp, h⟩
    · rintro ⟨q, hq, h⟩
      rcases List.mem_append.1 hq with h2 | h2
      · exact .inl ⟨q, h2, h⟩
      · simp only [List.mem_singleton] at h2; subst h2; exact .inr h
/-- Both fold the same. -/
theorem new_made : ∀ (l : List Pce) (rs : List Rw) (L : List Pr) (i : Nat), (∀ p ∈ l, PceOk p) → Told rs L → (∃ rs' M, newF rs l i = .inl rs' ∧ madeF L l i = .inl M ∧ Told rs' M) ∨ ∃ k, newF rs l i = .inr k ∧ madeF L l i = .inr k
  | [], rs, L, i, _, h => .inl ⟨rs, L, rfl, rfl, h⟩
  | p :: l, rs, L, i, hp, h => by
    simp only [newF, madeF]
    cases hr : rowOf p with
    | none => exact .inr ⟨i, rfl, rfl⟩
    | some r =>
      have hok := rowOf_ok (hp p (by simp)) hr
      have ho := ovl_iff h hok
      simp only [joinL]
      rw [← ho]
      cases hv : ovl rs r with
      | true => exact .inr ⟨i, rfl, rfl⟩
      | false =>
        simp only [Bool.false_eq_true, if_false]
        exact new_made l (rs ++ [r]) _ (i + 1) (fun q hq => hp q (by simp [hq])) (told_step h hok hv)
theorem told_nil : Told [] [] := ⟨by simp, by simp, by simp [Srt], by simp⟩
/-- The rows by rising codes: just these pairs. -/
theorem told_sorted {rs rs' : List Rw} {L : List Pr} (h : Told rs L) (hp : rs'.Perm rs) (hs : rs'.Pairwise fun a b => a.1 ≤ b.1) : RowsOk rs' ∧ rs'.flatMap prs = L := by
  obtain ⟨ha, hok, hL, hm⟩ := h
  have hok' : ∀ r ∈ rs', RwOk r := fun r hr => hok r (hp.mem_iff.1 hr)
  have ha' : rs'.Pairwise Apart := by
    refine (hp.pairwise_iff ?_).2 ha
    intro a b h
    unfold Apart at *
    omega
  have hb : rs'.Pairwise fun a b => a.1 + a.2.1 ≤ b.1 := by
    have hboth := hs.and ha'
    refine hboth.imp_of_mem ?_
    intro a b hma hmb h
    obtain ⟨h1, h2⟩ := h
    have := (hok' b hmb).1
    unfold Apart at h2
    omega
  refine ⟨⟨hb, hok'⟩, srt_ext _ _ (rows_srt rs' hb) hL fun x => ?_⟩
  rw [hm, List.mem_flatMap]
  constructor
  · rintro ⟨r, hr, h⟩; exact ⟨r, hp.mem_iff.1 hr, h⟩
  · rintro ⟨r, hr, h⟩; exact ⟨r, hp.mem_iff.2 hr, h⟩
end Go.Proofs.YtpnjandlpbjddabDoor
