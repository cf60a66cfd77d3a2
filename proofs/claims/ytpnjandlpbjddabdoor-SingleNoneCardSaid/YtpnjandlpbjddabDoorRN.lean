/- What Over keeps (plain), and slices.Clone of rows; condition: the tables' rows stand by rising codes. -/
import Derived.Test.YtpnjandlpbjddabDoorRM
set_option maxRecDepth 100000
set_option maxHeartbeats 1000000
namespace Go.Proofs.YtpnjandlpbjddabDoor
open Go Go.RowKit

def prsT (rs : List (Rw × Sl)) : List Pr := (rs.map (·.1)).flatMap prs
theorem mem_prsT {rs : List (Rw × Sl)} {y : Pr} : y ∈ prsT rs ↔ ∃ x ∈ rs, y ∈ prs x.1 := by
  unfold prsT
  rw [List.mem_flatMap]
  constructor
  · rintro ⟨r, hr, hy⟩
    obtain ⟨x, hx, rfl⟩ := List.mem_map.1 hr
    exact ⟨x, hx, hy⟩
  · rintro ⟨x, hx, hy⟩
    exact ⟨x.1, List.mem_map_of_mem hx, hy⟩
theorem hasT {rs : List (Rw × Sl)} {c : Nat} : hasC (prsT rs) c = true ↔ ∃ x ∈ rs, x.1.1 ≤ c ∧ c < x.1.1 + x.1.2.1 := by
  rw [hasC_iff]
  constructor
  · rintro ⟨y, hy, rfl⟩
    obtain ⟨x, hx, h⟩ := mem_prsT.1 hy
    have := mem_prs.1 h
    exact ⟨x, hx, this.1, this.2.1⟩
  · rintro ⟨x, hx, h1, h2⟩
    exact ⟨(c, sgAt x.1 (c - x.1.1)), mem_prsT.2 ⟨x, hx, mem_prs.2 ⟨h1, h2, rfl⟩⟩, rfl⟩
/-- Rows put one over another, from parts: the parts tell what the upper table hasn't. -/
def OvOk (ts : List (Rw × Sl)) (done : Pr → Prop) (ps : List (Rw × Sl)) (cur : Nat) : Prop :=
  (∀ y, (∃ x ∈ ps, y ∈ prs x.1) ↔ done y ∧ hasC (prsT ts) y.1 = false) ∧ ((ps.map (·.1)).Pairwise fun a b => a.1 + a.2.1 ≤ b.1) ∧ (∀ x ∈ ps, x.1.1 + x.1.2.1 ≤ cur) ∧ ∀ x ∈ ps, RwOk x.1
section
variable {ts ps : List (Rw × Sl)} {done : Pr → Prop} {cur : Nat}
theorem OvOk.mem (h : OvOk ts done ps cur) : ∀ y, (∃ x ∈ ps, y ∈ prs x.1) ↔ done y ∧ hasC (prsT ts) y.1 = false := h.1
theorem OvOk.asc (h : OvOk ts done ps cur) : (ps.map (·.1)).Pairwise fun a b => a.1 + a.2.1 ≤ b.1 := h.2.1
theorem OvOk.le (h : OvOk ts done ps cur) : ∀ x ∈ ps, x.1.1 + x.1.2.1 ≤ cur := h.2.2.1
theorem OvOk.ok (h : OvOk ts done ps cur) : ∀ x ∈ ps, RwOk x.1 := h.2.2.2
end
theorem ov_nil (ts : List (Rw × Sl)) (cur : Nat) : OvOk ts (fun _ => False) [] cur := ⟨by simp, by simp, by simp, by simp⟩
theorem OvOk.more {ts : List (Rw × Sl)} {d d' : Pr → Prop} {ps : List (Rw × Sl)} {cur cur' : Nat} (h : OvOk ts d ps cur) (hd : ∀ y, hasC (prsT ts) y.1 = false → (d y ↔ d' y)) (hc : cur ≤ cur') : OvOk ts d' ps cur' :=
  ⟨fun y => by rw [h.mem]; constructor <;> (rintro ⟨a, b⟩; exact ⟨by first | exact (hd y b).1 a | exact (hd y b).2 a, b⟩), h.asc, fun x hx => Nat.le_trans (h.le x hx) hc, h.ok⟩
/-- A part of a row behind what was done, where the upper table has no code. -/
theorem OvOk.part {ts : List (Rw × Sl)} {d : Pr → Prop} {ps : List (Rw × Sl)} {a b : Nat} {r : Rw} {q : Sl} (h : OvOk ts d ps a) (hr : RwOk r) (h1 : r.1 ≤ a) (h2 : a < b) (h3 : b ≤ r.1 + r.2.1) (hn : ∀ c, a ≤ c → c < b → hasC (prsT ts) c = false) :
    OvOk ts (fun y => d y ∨ (y ∈ prs r ∧ a ≤ y.1 ∧ y.1 < b)) (ps ++ [(partR r a b, q)]) b := by
  refine ⟨fun y => ?_, ?_, fun x hx => ?_, fun x hx => ?_⟩
  · constructor
    · rintro ⟨x, hx, hy⟩
      rcases List.mem_append.1 hx with hx | hx
      · have := (h.mem y).1 ⟨x, hx, hy⟩
        exact ⟨.inl this.1, this.2⟩
      · simp only [List.mem_singleton] at hx
        subst hx
        have := (part_mem h1 h3).1 hy
        exact ⟨.inr ⟨this.2.2, this.1, this.2.1⟩, hn _ this.1 this.2.1⟩
    · rintro ⟨hy | ⟨hy, h4, h5⟩, hc⟩
      · obtain ⟨x, hx, hyx⟩ := (h.mem y).2 ⟨hy, hc⟩
        exact ⟨x, by simp [hx], hyx⟩
      · exact ⟨_, List.mem_append_right _ (List.mem_singleton.2 rfl), (part_mem h1 h3).2 ⟨h4, h5, hy⟩⟩
  · rw [List.map_append, List.pairwise_append]
    refine ⟨h.asc, by simp, fun x hx y hy => ?_⟩
    simp only [List.map_cons, List.map_nil, List.mem_singleton] at hy
    subst hy
    obtain ⟨z, hz, rfl⟩ := List.mem_map.1 hx
    exact h.le z hz
  · rcases List.mem_append.1 hx with hx | hx
    · have := h.le x hx; omega
    · simp only [List.mem_singleton] at hx
      subst hx
      show a + (b - a) ≤ b
      omega
  · rcases List.mem_append.1 hx with hx | hx
    · exact h.ok x hx
    · simp only [List.mem_singleton] at hx
      subst hx
      exact part_ok hr h1 h2 h3
/-- All rows, by rising codes: one table over another. -/
theorem ov_end {ts os ps rs : List (Rw × Sl)} {cur : Nat} (ht : RowsOk (ts.map (·.1))) (ho : RowsOk (os.map (·.1))) (h : OvOk ts (fun y => y ∈ prsT os) ps cur) (hp : rs.Perm (ts ++ ps)) (hs : rs.Pairwise fun a b => a.1.1 ≤ b.1.1) :
    RowsOk (rs.map (·.1)) ∧ prsT rs = overL (prsT ts) (prsT os) := by
  have hok : ∀ x ∈ rs, RwOk x.1 := fun x hx => by
    rcases List.mem_append.1 (hp.mem_iff.1 hx) with h1 | h1
    · exact ht.2 _ (List.mem_map_of_mem h1)
    · exact h.ok x h1
  have hap : ((ts ++ ps).map (·.1)).Pairwise Apart := by
    rw [List.map_append, List.pairwise_append]
    refine ⟨ht.1.imp fun h => .inl h, h.asc.imp fun h => .inl h, fun a ha b hb => ?_⟩
    obtain ⟨x, hx, rfl⟩ := List.mem_map.1 ha
    obtain ⟨y, hy, rfl⟩ := List.mem_map.1 hb
    have hx1 := (ht.2 _ (List.mem_map_of_mem (f := (·.1)) hx)).1
    have hy1 := (h.ok y hy).1
    unfold Apart
    rcases Nat.lt_or_ge (max x.1.1 y.1.1) (x.1.1 + x.1.2.1) with h1 | h1
    · rcases Nat.lt_or_ge (max x.1.1 y.1.1) (y.1.1 + y.1.2.1) with h2 | h2
      · have := ((h.mem (max x.1.1 y.1.1, sgAt y.1 (max x.1.1 y.1.1 - y.1.1))).1 ⟨y, hy, mem_prs.2 ⟨by simp; omega, by simp; omega, rfl⟩⟩).2
        have h3 : hasC (prsT ts) (max x.1.1 y.1.1) = true := hasT.2 ⟨x, hx, by omega, h1⟩
        simp only at this
        rw [h3] at this; cases this
      · omega
    · omega
  have hap2 : (rs.map (·.1)).Pairwise Apart := by
    refine ((hp.map _).pairwise_iff ?_).2 hap
    intro a b h
    unfold Apart at *
    omega
  have hasc : (rs.map (·.1)).Pairwise fun a b => a.1 + a.2.1 ≤ b.1 := by
    have hs2 : (rs.map (·.1)).Pairwise fun a b => a.1 ≤ b.1 := by rw [List.pairwise_map]; exact hs
    refine (hs2.and hap2).imp_of_mem ?_
    intro a b hma hmb h
    obtain ⟨h1, h2⟩ := h
    obtain ⟨x, hx, rfl⟩ := List.mem_map.1 hmb
    have := (hok x hx).1
    unfold Apart at h2
    omega
  have hro : RowsOk (rs.map (·.1)) := ⟨hasc, fun r hr => by obtain ⟨x, hx, rfl⟩ := List.mem_map.1 hr; exact hok x hx⟩
  refine ⟨hro, over_eq (rows_srt _ ht.1) (rows_srt _ ho.1) (rows_srt _ hasc) fun y => ?_⟩
  rw [show y ∈ prsT rs ↔ ∃ x ∈ rs, y ∈ prs x.1 from mem_prsT]
  constructor
  · rintro ⟨x, hx, hy⟩
    rcases List.mem_append.1 (hp.mem_iff.1 hx) with h1 | h1
    · exact .inl (mem_prsT.2 ⟨x, h1, hy⟩)
    · exact .inr ((h.mem y).1 ⟨x, h1, hy⟩)
  · rintro (h1 | h1)
    · obtain ⟨x, hx, hy⟩ := mem_prsT.1 h1
      exact ⟨x, hp.mem_iff.2 (List.mem_append_left _ hx), hy⟩
    · obtain ⟨x, hx, hy⟩ := (h.mem y).2 h1
      exact ⟨x, hp.mem_iff.2 (List.mem_append_right _ hx), hy⟩
theorem Clone_any (A : Option Addr) (c : Nat) (ts : List (Rw × Sl)) (hn : ts.length ≤ 10000000) (B : Nat) (w : World) (h : RdsR w B A ts) :
    Calls Tryd.prog 56 #[.slice A ts.length c] w fun e w' => ∃ v, e = .returned v ∧ w'.ownsRow w.heap.size 73 4 v ts.length (ts.flatMap rV) ∧ Below w.heap.size w w' := by
  obtain ⟨i0, hi, iz0, iz1, iz2⟩ := info_parts row_info
  cases A with
  | none =>
    have h0 : ts = [] := by
      rcases Nat.eq_zero_or_pos ts.length with h1 | h1
      · exact List.eq_nil_of_length_eq_zero h1
      · obtain ⟨ad, hA, _⟩ := h.1.2 h1; cases hA
    subst h0
    have := AnyE.slices_Clone_nil Tryd.laysClone 0 c w
    change Calls Tryd.prog 56 _ _ _ at this
    refine this.mono ?_
    rintro e w' ⟨rfl, rfl⟩
    exact ⟨_, rfl, World.ownsRow_nil _ _ _ _, Below.refl _ _⟩
  | some ad =>
    obtain ⟨bk, off, sp⟩ := ad
    obtain rfl : sp = none := h.2 _ rfl
    have hl := flat4_len rV rV_len ts
    have hc : ∀ j u, (ts.flatMap rV)[j]? = some u → w.cell? ⟨bk, off + j, none⟩ = some u := fun j u hu => by
      have hj : 0 < ts.length := by
        rcases Nat.eq_zero_or_pos ts.length with h1 | h1
        · rw [List.getElem?_eq_none (by omega)] at hu; cases hu
        · exact h1
      obtain ⟨ad, hA, _, hc⟩ := h.1.2 hj
      injection hA with hA
      subst hA
      have := hc j u hu
      rwa [addr_eq rfl] at this
    have := AnyE.slices_Clone Tryd.laysClone i0 _ 4 48 hi iz0 iz1 iz2 rfl (by decide) Tryd.sizeOf73 bk off ts.length c (ts.flatMap rV) w hl (by unfold maxLen; omega) (by omega) hc (fun u hu => by
      obtain ⟨x, _, hx⟩ := List.mem_flatMap.1 hu
      exact rV_one x u hx)
    change Calls Tryd.prog 56 _ _ _ at this
    refine this.mono ?_
    rintro e w' ⟨v, rfl, h1, _, h3⟩
    exact ⟨v, rfl, h1, h3⟩
end Go.Proofs.YtpnjandlpbjddabDoor
