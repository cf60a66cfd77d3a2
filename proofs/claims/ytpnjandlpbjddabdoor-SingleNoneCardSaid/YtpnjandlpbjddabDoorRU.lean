/- What New makes, as a table with the document's pairs; contracts of the law's table, Is. -/
import Derived.Test.YtpnjandlpbjddabDoorRT
set_option maxRecDepth 100000
set_option maxHeartbeats 4000000
namespace Go.Proofs.YtpnjandlpbjddabDoor
open Go Go.RowKit

theorem newF_len : ∀ (l : List Pce) (acc rs : List Rw) (i : Nat), newF acc l i = .inl rs → rs.length ≤ acc.length + l.length
  | [], acc, rs, i, h => by
    unfold newF at h
    injection h with h; subst h; simp
  | p :: l, acc, rs, i, h => by
    unfold newF at h
    split at h
    · cases h
    · split at h
      · cases h
      · have := newF_len l _ _ _ h
        simp at this ⊢
        omega
theorem TbR.nil (w : World) (B : Nat) : TbR w B none [] := ⟨⟨Reads.none_, fun ad h => by cases h⟩, fun x hx => by simp at hx, by simp [RowsOk]⟩
def ftE (l : List Pce) : Int := match madeF [] l 0 with
  | .inl _ => 0
  | .inr _ => 5
def ftA (l : List Pce) : Int := match madeF [] l 0 with
  | .inl _ => 0
  | .inr k => (k : Int)
def NtPost (l : List Pce) (w0 : World) (e : Ending) (w' : World) : Prop := ∃ A c rs, e = .returned (.tuple #[.agg #[.slice A rs.length c], .agg #[.int .i64 (ftE l), .int .i64 (ftA l)]]) ∧ rs.length ≤ c ∧ rs.length ≤ 4096 ∧ TbR w' w'.heap.size A rs ∧ prsT rs = mdL l ∧ Below w0.heap.size w0 w'
theorem New_tb (l : List Pce) (A : Option Addr) (c : Nat) (hl : l.length ≤ 4096) (hok : ∀ p ∈ l, PceOk p ∧ p.2.2.2.1.size ≤ 1000000) (w : World) (hT : Tabs w) (hA : PcsL w w.heap.size A l) :
    Calls Tryd.prog 25 #[.slice A l.length c] w (NtPost l w) := by
  refine (New_any l A c hl hok w hT hA).mono ?_
  rintro e w' ⟨h, hb⟩
  unfold NtPost ftE ftA mdL
  rcases new_made l [] [] 0 (fun p hp => (hok p hp).1) told_nil with ⟨rs', M, h1, h2, h3⟩ | ⟨k, h1, h2⟩
  · rw [h2]
    rcases h with ⟨A2, c2, rs, ⟨rs0, h4, h5, h6⟩, h7, h8, h9, rfl⟩ | ⟨k, h4, _⟩
    · rw [h4] at h1; injection h1 with h1
      obtain ⟨hro, hpr⟩ := told_sorted (rs' := rs.map (·.1)) h3 (by rw [← h1]; exact h5.map _) (by rw [List.pairwise_map]; exact h6)
      have hlen := newF_len l _ _ _ h4
      rw [List.length_map] at hlen
      simp only [List.length_nil, Nat.zero_add] at hlen
      exact ⟨A2, c2, rs, rfl, h7, by have := h5.length_eq; omega, ⟨h8, fun x hx => h9 x hx, hro⟩, hpr, hb⟩
    · rw [h4] at h1; cases h1
  · rw [h2]
    rcases h with ⟨A2, c2, rs, ⟨rs0, h4, h5, h6⟩, h7, h8, h9, rfl⟩ | ⟨k2, h4, rfl⟩
    · rw [h4] at h1; cases h1
    · rw [h4] at h1; injection h1 with h1; subst h1
      exact ⟨none, 0, [], rfl, Nat.le_refl _, by simp, TbR.nil _ _, rfl, hb⟩
theorem TbR.set1 {w : World} {B g : Nat} {A A0 : Option Addr} {n0 c0 : Nat} {rs : List (Rw × Sl)} {T : TypeId} (h : TbR w B A rs) (hg : w.heap[g]? = some (.cells #[.slice A0 n0 c0] T (0, 0))) (hT : T ≠ 21) (v : Value) : TbR (w.setCell ⟨g, 0, none⟩ v) B A rs := by
  refine ⟨⟨⟨h.1.1.1, fun h0 => ?_⟩, h.1.2⟩, fun x hx => ⟨(h.2.1 x hx).1, sg_set1 (h.2.1 x hx).2 v hg hT⟩, h.2.2⟩
  obtain ⟨x, hx⟩ : ∃ x, rs[0]? = some x := ⟨_, List.getElem?_eq_getElem h0⟩
  obtain ⟨ad', hA', _, hc', _⟩ := h.row hx
  obtain ⟨ad, hA, hb, hc⟩ := h.1.1.2 h0
  rw [hA] at hA'; injection hA' with hA'; subst hA'
  have hsp := h.1.2 ad hA
  refine ⟨ad, hA, hb, fun j u hu => ?_⟩
  have hbk : ad.block ≠ g := by
    rintro rfl
    rw [sg_cell hsp hg] at hc'
    rcases hi : ad.off + 0 * 4 with _ | i
    · rw [hi] at hc'; simp at hc'
    · rw [hi] at hc'; simp at hc'
  rw [cell_set (by rw [block_of_add]; exact hbk)]
  exact hc j u hu
/-- A table with these pairs, as a value. -/
def TbPost (L : List Pr) (w0 : World) (e : Ending) (w' : World) : Prop := ∃ A c rs, e = .returned (.agg #[.slice A rs.length c]) ∧ rs.length ≤ c ∧ rs.length ≤ 4096 ∧ TbR w' w'.heap.size A rs ∧ prsT rs = L ∧ Below w0.heap.size w0 w'
/-- Has the table just these pairs. -/
def IsRel (L : List Pr) (base : Nat) (w0 : World) (i : Value) (wr : World) : Prop := ∃ k : Nat, k ≤ L.length ∧ i = .int .i64 k ∧ Below base w0 wr ∧ base ≤ wr.heap.size
end Go.Proofs.YtpnjandlpbjddabDoor
