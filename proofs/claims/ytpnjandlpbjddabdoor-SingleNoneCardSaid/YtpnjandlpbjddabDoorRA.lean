/- Chapter 4 in plain lists: rows of codes, their pairs, sorted lists of pairs. No program in sight. -/
import Derived.Test.YtpnjandlpbjddabDoorMathU
import Derived.Test.YtpnjandlpbjddabDoorMem
set_option maxRecDepth 100000
set_option maxHeartbeats 1000000
namespace Go.Proofs.YtpnjandlpbjddabDoor
open Go

/-- A code, its sign. -/
abbrev Pr := Nat × Int
/-- A row: the first code, how many, the first sign, or the signs. -/
abbrev Rw := Nat × Nat × Int × Option (List Int)
def sgAt (r : Rw) (i : Nat) : Int := match r.2.2.2 with
  | none => r.2.2.1 + i
  | some l => l.getD i 0
def prs (r : Rw) : List Pr := (List.range r.2.1).map fun i => (r.1 + i, sgAt r i)
def RwOk (r : Rw) : Prop := 1 ≤ r.2.1 ∧ r.1 + r.2.1 ≤ 1048576 ∧ match r.2.2.2 with
  | none => 0 ≤ r.2.2.1 ∧ r.2.2.1 + r.2.1 ≤ 1114112
  | some l => r.2.2.1 = 0 ∧ l.length = r.2.1 ∧ ∀ p ∈ l, 0 ≤ p ∧ p ≤ 1114111
def Srt (l : List Pr) : Prop := l.Pairwise fun a b => a.1 < b.1
theorem mem_prs {r : Rw} {x : Pr} : x ∈ prs r ↔ r.1 ≤ x.1 ∧ x.1 < r.1 + r.2.1 ∧ x.2 = sgAt r (x.1 - r.1) := by
  unfold prs
  rw [List.mem_map]
  constructor
  · rintro ⟨i, hi, rfl⟩
    rw [List.mem_range] at hi
    refine ⟨by simp, by simp; omega, by simp⟩
  · rintro ⟨h1, h2, h3⟩
    refine ⟨x.1 - r.1, List.mem_range.2 (by omega), ?_⟩
    rw [← h3, show r.1 + (x.1 - r.1) = x.1 by omega]
theorem prs_len (r : Rw) : (prs r).length = r.2.1 := by simp [prs]
theorem prs_srt (r : Rw) : Srt (prs r) := by
  unfold Srt prs
  rw [List.pairwise_map]
  exact List.pairwise_lt_range.imp fun h => by simp; omega
theorem srt_ext : ∀ (l m : List Pr), Srt l → Srt m → (∀ x, x ∈ l ↔ x ∈ m) → l = m
  | [], [], _, _, _ => rfl
  | [], b :: m, _, _, h => by have := (h b).2 (by simp); simp at this
  | a :: l, [], _, _, h => by have := (h a).1 (by simp); simp at this
  | a :: l, b :: m, hl, hm, h => by
    have hl' := List.pairwise_cons.1 hl
    have hm' := List.pairwise_cons.1 hm
    have hab : a = b := by
      rcases List.mem_cons.1 ((h a).1 (by simp)) with e | e
      · exact e
      · rcases List.mem_cons.1 ((h b).2 (by simp)) with e2 | e2
        · exact e2.symm
        · have := hm'.1 a e; have := hl'.1 b e2; omega
    subst hab
    rw [srt_ext l m hl'.2 hm'.2 fun x => ?_]
    constructor
    · intro hx
      rcases List.mem_cons.1 ((h x).1 (by simp [hx])) with e | e
      · subst e; have := hl'.1 x hx; omega
      · exact e
    · intro hx
      rcases List.mem_cons.1 ((h x).2 (by simp [hx])) with e | e
      · subst e; have := hm'.1 x hx; omega
      · exact e
/-- Rows by rising codes, none of which has a code of another one. -/
def RowsOk (rs : List Rw) : Prop := rs.Pairwise (fun a b => a.1 + a.2.1 ≤ b.1) ∧ ∀ r ∈ rs, RwOk r
theorem rows_srt : ∀ (rs : List Rw), rs.Pairwise (fun a b => a.1 + a.2.1 ≤ b.1) → Srt (rs.flatMap prs)
  | [], _ => by simp [Srt]
  | r :: rs, h => by
    have h' := List.pairwise_cons.1 h
    rw [List.flatMap_cons]
    unfold Srt
    rw [List.pairwise_append]
    refine ⟨prs_srt r, rows_srt rs h'.2, fun a ha b hb => ?_⟩
    obtain ⟨q, hq, hbq⟩ := List.mem_flatMap.1 hb
    have h1 := h'.1 q hq
    have h2 := (mem_prs.1 ha).2.1
    have h3 := (mem_prs.1 hbq).1
    omega
def putL : List Pr → Pr → List Pr
  | [], p => [p]
  | x :: l, p => if p.1 < x.1 then p :: x :: l else x :: putL l p
theorem mem_putL {p y : Pr} : ∀ {l : List Pr}, y ∈ putL l p ↔ y = p ∨ y ∈ l
  | [] => by simp [putL]
  | x :: l => by
    unfold putL
    split
    · simp
    · rw [List.mem_cons, mem_putL (l := l), List.mem_cons]
      constructor
      · rintro (h | h | h) <;> simp [h]
      · rintro (h | h | h) <;> simp [h]
theorem srt_putL {p : Pr} : ∀ {l : List Pr}, Srt l → (∀ x ∈ l, x.1 ≠ p.1) → Srt (putL l p)
  | [], _, _ => by simp [putL, Srt]
  | x :: l, h, hn => by
    have h' := List.pairwise_cons.1 h
    unfold putL
    split
    · rename_i hlt
      refine List.pairwise_cons.2 ⟨fun y hy => ?_, h⟩
      rcases List.mem_cons.1 hy with rfl | hy
      · exact hlt
      · have := h'.1 y hy; omega
    · rename_i hlt
      refine List.pairwise_cons.2 ⟨fun y hy => ?_, srt_putL h'.2 fun z hz => hn z (by simp [hz])⟩
      rcases mem_putL.1 hy with rfl | hy
      · have := hn x (by simp); omega
      · exact h'.1 y hy
def hasC (l : List Pr) (c : Nat) : Bool := l.any fun x => x.1 == c
theorem hasC_iff {l : List Pr} {c : Nat} : hasC l c = true ↔ ∃ x ∈ l, x.1 = c := by simp [hasC, List.any_eq_true]
def joinL (l more : List Pr) : Option (List Pr) := if more.any (fun m => hasC l m.1) = true then none else some (more.foldl putL l)
def overL (l other : List Pr) : List Pr := other.foldl (fun out p => if hasC l p.1 = true then out else putL out p) l
theorem fold_put : ∀ (more l : List Pr), Srt l → Srt more → (∀ m ∈ more, ∀ x ∈ l, x.1 ≠ m.1) → Srt (more.foldl putL l) ∧ ∀ y, y ∈ more.foldl putL l ↔ y ∈ l ∨ y ∈ more
  | [], l, hl, _, _ => by simpa using hl
  | m :: more, l, hl, hm, hd => by
    have hm' := List.pairwise_cons.1 hm
    obtain ⟨a, b⟩ := fold_put more (putL l m) (srt_putL hl (hd m (by simp))) hm'.2 fun q hq x hx => by
      rcases mem_putL.1 hx with rfl | hx
      · have := hm'.1 q hq; omega
      · exact hd q (by simp [hq]) x hx
    rw [List.foldl_cons]
    refine ⟨a, fun y => ?_⟩
    rw [b, mem_putL, List.mem_cons]
    constructor
    · rintro ((h | h) | h) <;> simp [h]
    · rintro (h | h | h) <;> simp [h]
theorem fold_over (l : List Pr) : ∀ (more out : List Pr), Srt out → Srt more → (∀ m ∈ more, hasC l m.1 = false → ∀ x ∈ out, x.1 ≠ m.1) →
    Srt (more.foldl (fun out p => if hasC l p.1 = true then out else putL out p) out) ∧ ∀ y, y ∈ more.foldl (fun out p => if hasC l p.1 = true then out else putL out p) out ↔ y ∈ out ∨ (y ∈ more ∧ hasC l y.1 = false)
  | [], out, ho, _, _ => by simpa using ho
  | m :: more, out, ho, hm, hd => by
    have hm' := List.pairwise_cons.1 hm
    rw [List.foldl_cons]
    cases hc : hasC l m.1 with
    | true =>
      simp only [if_true]
      obtain ⟨a, b⟩ := fold_over l more out ho hm'.2 fun q hq => hd q (by simp [hq])
      refine ⟨a, fun y => ?_⟩
      rw [b, List.mem_cons]
      constructor
      · rintro (h | ⟨h, h2⟩)
        · exact .inl h
        · exact .inr ⟨.inr h, h2⟩
      · rintro (h | ⟨h | h, h2⟩)
        · exact .inl h
        · subst h; rw [hc] at h2; cases h2
        · exact .inr ⟨h, h2⟩
    | false =>
      simp only [Bool.false_eq_true, if_false]
      obtain ⟨a, b⟩ := fold_over l more (putL out m) (srt_putL ho (hd m (by simp) hc)) hm'.2 fun q hq hq2 x hx => by
        rcases mem_putL.1 hx with rfl | hx
        · have := hm'.1 q hq; omega
        · exact hd q (by simp [hq]) hq2 x hx
      refine ⟨a, fun y => ?_⟩
      rw [b, mem_putL, List.mem_cons]
      constructor
      · rintro ((h | h) | ⟨h, h2⟩)
        · subst h; exact .inr ⟨.inl rfl, hc⟩
        · exact .inl h
        · exact .inr ⟨.inr h, h2⟩
      · rintro (h | ⟨h | h, h2⟩)
        · exact .inl (.inr h)
        · exact .inl (.inl h)
        · exact .inr ⟨h, h2⟩
theorem overL_spec (l m : List Pr) (hl : Srt l) (hm : Srt m) : Srt (overL l m) ∧ ∀ y, y ∈ overL l m ↔ y ∈ l ∨ (y ∈ m ∧ hasC l y.1 = false) :=
  fold_over l m l hl hm fun q hq h x hx e => by
    have := hasC_iff.2 ⟨x, hx, e⟩
    rw [h] at this; cases this
theorem over_eq {l m r : List Pr} (hl : Srt l) (hm : Srt m) (hr : Srt r) (h : ∀ y, y ∈ r ↔ y ∈ l ∨ (y ∈ m ∧ hasC l y.1 = false)) : r = overL l m := by
  obtain ⟨a, b⟩ := overL_spec l m hl hm
  exact srt_ext _ _ hr a fun x => by rw [h, b]
theorem hasC_over (l m : List Pr) (hl : Srt l) (hm : Srt m) (c : Nat) : hasC (overL l m) c = (hasC l c || hasC m c) := by
  obtain ⟨_, b⟩ := overL_spec l m hl hm
  rw [Bool.eq_iff_iff, Bool.or_eq_true, hasC_iff, hasC_iff, hasC_iff]
  constructor
  · rintro ⟨x, hx, rfl⟩
    rcases (b x).1 hx with h | ⟨h, _⟩
    · exact .inl ⟨x, h, rfl⟩
    · exact .inr ⟨x, h, rfl⟩
  · rintro (⟨x, hx, rfl⟩ | ⟨x, hx, rfl⟩)
    · exact ⟨x, (b x).2 (.inl hx), rfl⟩
    · cases hc : hasC l x.1 with
      | true => obtain ⟨y, hy, e⟩ := hasC_iff.1 hc; exact ⟨y, (b y).2 (.inl hy), e⟩
      | false => exact ⟨x, (b x).2 (.inr ⟨hx, hc⟩), rfl⟩
theorem over_assoc (l m n : List Pr) (hl : Srt l) (hm : Srt m) (hn : Srt n) : overL (overL l m) n = overL l (overL m n) := by
  obtain ⟨a1, b1⟩ := overL_spec l m hl hm
  obtain ⟨a2, b2⟩ := overL_spec m n hm hn
  obtain ⟨a3, b3⟩ := overL_spec (overL l m) n a1 hn
  refine over_eq hl a2 a3 fun y => ?_
  rw [b3, b1, b2, hasC_over l m hl hm, Bool.or_eq_false_iff]
  constructor
  · rintro ((h | ⟨h, h2⟩) | ⟨h, h2, h3⟩)
    · exact .inl h
    · exact .inr ⟨.inl h, h2⟩
    · exact .inr ⟨.inr ⟨h, h3⟩, h2⟩
  · rintro (h | ⟨h | ⟨h, h3⟩, h2⟩)
    · exact .inl (.inl h)
    · exact .inl (.inr ⟨h, h2⟩)
    · exact .inr ⟨h, h2, h3⟩
end Go.Proofs.YtpnjandlpbjddabDoor
