/- Contract of byFrom; what stands of codes seen. Condition: the rows are the call's own. -/
import Derived.Test.YtpnjandlpbjddabDoorRG
import Derived.Shelf.SlSortCmp.NoneTotal
set_option maxRecDepth 100000
set_option maxHeartbeats 1000000
namespace Go.Proofs.YtpnjandlpbjddabDoor
open Go Go.RowKit

def BfPost (base : Nat) (v : Value) (rs : List (Rw × Sl)) (w0 : World) (e : Ending) (w' : World) : Prop :=
  e = .returned (.tuple #[]) ∧ ∃ A c, ∃ rs' : List (Rw × Sl), v = .slice A rs.length c ∧ rs.length ≤ c ∧ rs'.Perm rs ∧ rs'.Pairwise (fun a b => a.1.1 ≤ b.1.1) ∧ RdsR w' w'.heap.size A rs' ∧ Below base w0 w' ∧ w0.grownBy w' v.ownBlock
theorem ByFrom_any (base : Nat) (v : Value) (rs : List (Rw × Sl)) (w : World) (h : w.ownsRow base 73 4 v rs.length (rs.flatMap rV)) (hbase : base ≤ w.heap.size) (hn : rs.length < 4611686018427387904) :
    Calls Tryd.prog 45 #[v] w (BfPost base v rs w) := by
  have hfin : ∃ A c, v = .slice A rs.length c ∧ rs.length ≤ c ∧ Calls Tryd.prog 65 #[.slice A rs.length c, .func (.func 66) #[] #[]] w (BfPost base v rs w) := by
    by_cases h0 : rs = []
    · subst h0
      obtain ⟨A, c, hv, hc, _⟩ := Reads.of_own h
      refine ⟨A, c, hv, hc, ?_⟩
      have := AnyF.slices_SortFunc_none Tryd.laysSort A c (.func (.func 66) #[] #[]) w
      change Calls Tryd.prog 65 _ _ _ at this
      refine this.mono ?_
      rintro e w' ⟨rfl, rfl⟩
      refine ⟨rfl, A, c, [], hv, hc, List.Perm.refl _, by simp, ⟨Reads.none_, ?_⟩, Below.refl _ _, ⟨rfl, rfl, rfl, Nat.le_refl _, fun _ _ _ => rfl⟩⟩
      intro ad hA
      subst hA
      rw [hv] at h
      exact own_spot h
    · have hpos : 0 < rs.length := List.length_pos_iff.2 h0
      rcases h.2 with ⟨_, h2⟩ | ⟨g, cap, cur, rfl, hbg, hg, hnc, hcm, hcs, htake⟩
      · omega
      · refine ⟨_, cap, rfl, hnc, ?_⟩
        refine (Sort_any base g cap rs w h hbase hn).mono ?_
        rintro e w' ⟨rfl, rs', h1, h2, h3, h4, h5, h6⟩
        have hlt := (h.lt g rfl).2
        refine ⟨rfl, _, cap, rs', rfl, hnc, h1, h2, ⟨⟨flat4_len rV rV_len rs', fun _ => ⟨_, rfl, by show g < _; omega, fun j u hu => ?_⟩⟩, fun ad had => by injection had with had; subst had; rfl⟩, h5, h6⟩
        rw [addr_eq rfl]
        simpa using h3 j u hu
  obtain ⟨A, c, hv, hc, hs⟩ := hfin
  generalize hP : BfPost base v rs w = P at *
  subst hv
  go_enter Tryd.func45, Tryd.ntmps45
  go_wp2_with (go_at_call 65; refine hs.mono ?_; intro e w1 hp1; have he : e = .returned (.tuple #[]) := (by rw [← hP] at hp1; exact hp1.1); subst he)
  go_end0
  exact hp1
/-- Codes from one on, up to another one, seen. -/
def setB (l : List Bool) (a b : Nat) : List Bool := l.mapIdx fun j x => x || (decide (a ≤ j) && decide (j < b))
theorem setB_len (l : List Bool) (a b : Nat) : (setB l a b).length = l.length := by simp [setB]
theorem setB_get (l : List Bool) (a b c : Nat) (hc : c < l.length) : (setB l a b)[c]? = some (l[c] || (decide (a ≤ c) && decide (c < b))) := by
  unfold setB
  rw [List.getElem?_mapIdx, List.getElem?_eq_getElem hc]; rfl
theorem setB_none (l : List Bool) (a : Nat) : setB l a a = l := by
  apply List.ext_getElem?
  intro j
  unfold setB
  rw [List.getElem?_mapIdx]
  cases l[j]? with
  | none => rfl
  | some x =>
    simp only [Option.map_some]
    congr 1
    by_cases h : a ≤ j
    · rw [decide_eq_false (by omega : ¬ j < a)]; simp
    · rw [decide_eq_false h]; simp
theorem setB_next (l : List Bool) (a c : Nat) (h : a ≤ c) : setB l a (c + 1) = (setB l a c).set c true := by
  apply List.ext_getElem?
  intro j
  rw [List.getElem?_set]
  unfold setB
  rw [List.getElem?_mapIdx, List.getElem?_mapIdx, List.length_mapIdx]
  by_cases hj : c = j
  · subst hj
    rw [if_pos rfl]
    by_cases hl : c < l.length
    · rw [if_pos hl, List.getElem?_eq_getElem hl]
      simp only [Option.map_some]
      rw [decide_eq_true h, decide_eq_true (by omega : c < c + 1)]; simp
    · rw [if_neg hl, List.getElem?_eq_none (by omega)]; rfl
  · rw [if_neg hj]
    cases l[j]? with
    | none => rfl
    | some x =>
      simp only [Option.map_some]
      have : decide (j < c + 1) = decide (j < c) := decide_eq_decide.2 (by omega)
      rw [this]
/-- The codes that rows have are just those seen. -/
def SeenOk (bits : List Bool) (acc : List Rw) : Prop := (∀ r ∈ acc, r.1 + r.2.1 ≤ bits.length) ∧ ∀ c, c < bits.length → bits[c]? = some (acc.any fun q => decide (q.1 ≤ c) && decide (c < q.1 + q.2.1))
theorem seen_nil : SeenOk [] [] := ⟨by simp, by simp⟩
theorem seen_more {bits : List Bool} {acc : List Rw} (h : SeenOk bits acc) (m : Nat) : SeenOk (bits ++ List.replicate m false) acc := by
  obtain ⟨h1, h2⟩ := h
  refine ⟨fun r hr => by have := h1 r hr; simp; omega, fun c hc => ?_⟩
  by_cases hl : c < bits.length
  · rw [List.getElem?_append_left hl]; exact h2 c hl
  · simp only [List.length_append, List.length_replicate] at hc
    rw [List.getElem?_append_right (by omega), List.getElem?_replicate, if_pos (by omega)]
    congr 1
    symm
    rw [List.any_eq_false]
    intro q hq
    have := h1 q hq
    simp; omega
theorem seen_hit {bits : List Bool} {acc : List Rw} {r : Rw} {c : Nat} (h : SeenOk bits acc) (hc : r.1 ≤ c ∧ c < r.1 + r.2.1) (hb : bits[c]? = some true) : ovl acc r = true := by
  have hl : c < bits.length := by
    rcases Nat.lt_or_ge c bits.length with h1 | h1
    · exact h1
    · rw [List.getElem?_eq_none h1] at hb; cases hb
  rw [h.2 c hl] at hb
  injection hb with hb
  obtain ⟨q, hq, hq2⟩ := List.any_eq_true.1 hb
  refine List.any_eq_true.2 ⟨q, hq, ?_⟩
  simp only [Bool.and_eq_true, decide_eq_true_eq] at hq2 ⊢
  omega
theorem seen_miss {bits : List Bool} {acc : List Rw} {r : Rw} (h : SeenOk bits acc) (hok : ∀ q ∈ acc, 1 ≤ q.2.1) (hr : 1 ≤ r.2.1) (he : r.1 + r.2.1 ≤ bits.length) (hb : ∀ c, r.1 ≤ c → c < r.1 + r.2.1 → bits[c]? = some false) :
    ovl acc r = false ∧ SeenOk (setB bits r.1 (r.1 + r.2.1)) (acc ++ [r]) := by
  constructor
  · rw [ovl, List.any_eq_false]
    intro q hq hc
    simp only [Bool.and_eq_true, decide_eq_true_eq] at hc
    have h1 := hok q hq
    have h2 := hb (max q.1 r.1) (by omega) (by omega)
    rw [h.2 _ (by omega)] at h2
    injection h2 with h2
    have h3 := List.any_eq_false.1 h2 q hq
    simp only [Bool.and_eq_true, decide_eq_true_eq, not_and] at h3
    omega
  · refine ⟨fun q hq => ?_, fun c hc => ?_⟩
    · rw [setB_len]
      rcases List.mem_append.1 hq with h1 | h1
      · exact h.1 q h1
      · simp only [List.mem_singleton] at h1; subst h1; exact he
    · rw [setB_len] at hc
      rw [setB_get _ _ _ _ hc]
      have h2 := h.2 c hc
      rw [List.getElem?_eq_getElem hc] at h2
      injection h2 with h2
      rw [h2, List.any_append]
      simp
end Go.Proofs.YtpnjandlpbjddabDoor
