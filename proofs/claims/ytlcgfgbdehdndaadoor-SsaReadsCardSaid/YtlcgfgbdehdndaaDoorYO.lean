/- Contract of the document's Pieces (chapter 26): it tells what lrc.Pieces tells; condition: at most 100,000 bytes. -/
import Derived.Test.YtlcgfgbdehdndaaDoorYN
set_option maxRecDepth 100000
set_option maxHeartbeats 1000000
namespace Go.Proofs.YtlcgfgbdehdndaaDoor
open Go Go.RowKit

theorem timesF_go {f : Nat} {r : List UInt8} (h : timeN r ≠ 0) : timesF (f + 1) r = (mk (r.take (timeN r)) :: (timesF f (r.drop (timeN r))).1, (timesF f (r.drop (timeN r))).2) := by
  rw [timesF, if_neg h]
def RpRel (t : List UInt8) (w0 : World) (v i : Value) (wr : World) : Prop := ∃ (acc : List Pc) (k f : Nat), k ≤ t.length ∧ i = .int .i64 k ∧ timesF t.length t = (acc ++ (timesF f (t.drop k)).1, (timesF f (t.drop k)).2) ∧ t.length - k ≤ f ∧ acc.length ≤ k ∧ (acc = [] → k = 0) ∧ wr.ownsRow w0.heap.size 55 3 v acc.length (acc.flatMap pcV) ∧ (acc = [] → v = .slice none 0 0) ∧ Below w0.heap.size w0 wr
def RnRel (m : Nat) (w0 : World) (i : Value) (wr : World) : Prop := ∃ k : Nat, k ≤ m ∧ i = .int .i64 ((1 + k : Nat) : Int) ∧ Below w0.heap.size w0 wr
def RiRel (s : ByteArray) (n : Nat) (w0 : World) (i : Value) (wr : World) : Prop := ∃ k : Nat, n ≤ k ∧ k ≤ s.size ∧ i = .int .i64 (k : Int) ∧ (∀ j, n ≤ j → j < k → ∀ h : j < s.size, j + 1 < s.size → s[j] ≠ 93) ∧ Below w0.heap.size w0 wr
/-- What the document asks of a note whose name has m letters. -/
def NoteC (s : ByteArray) (m : Nat) : Prop := (∃ h : 0 < s.size, s[0] = 91) ∧ m ≠ 0 ∧ (∃ h : 1 + m < s.size, s[1 + m] = 58) ∧ (∀ j, 1 + m ≤ j → ∀ h : j < s.size, j + 1 < s.size → s[j] ≠ 93) ∧ (∃ h : s.size - 1 < s.size, s[s.size - 1] = 93)
/-- The name's end, and what the note asks. -/
theorem note_facts (s : ByteArray) (h0 : 0 < s.size) : ∃ m : Nat, 1 + m ≤ s.size ∧ nmN s.data.toList = 1 + m ∧ (∀ k, k < m → ∀ h : 1 + k < s.size, decide ((97 : Int) ≤ (s[1 + k]).toNat) = true ∧ decide (((s[1 + k]).toNat : Int) ≤ 122) = true) ∧ (∀ h : 1 + m < s.size, (decide ((97 : Int) ≤ (s[1 + m]).toNat) && decide (((s[1 + m]).toNat : Int) ≤ 122)) = false) ∧
    (NoteC s m → noteL s.data.toList = some [mk (s.data.toList.take (1 + m + 1)), (false, (s.data.toList.take (1 + m)).drop 1, (s.data.toList.take (s.size - 1)).drop (1 + m + 1)), mk [93]]) ∧ (¬ NoteC s m → noteL s.data.toList = none) := by
  have hlen := len_data s
  suffices hh : ∃ m : Nat, m = ((s.data.toList.drop 1).takeWhile smB).length ∧ (NoteC s m ↔ (s.data.toList.take 1 = [91] ∧ Lib.indexByte s.data.toList 93 = (s.size : Int) - 1 ∧ 1 + m ≠ 1 ∧ s.data.toList[1 + m]? = some 58)) by
    obtain ⟨m, hm, hC⟩ := hh
    have hnm : nmN s.data.toList = 1 + m := by unfold nmN; rw [hm]
    refine ⟨m, ?_, hnm, ?_, ?_, ?_, ?_⟩
    · have := tw_le smB (s.data.toList.drop 1)
      rw [List.length_drop, hlen] at this
      omega
    · intro k hk h
      have := tw_in smB (s.data.toList.drop 1) k (by rw [List.length_drop, hlen]; omega) (by omega)
      rw [drop_get s 1 k (by rw [List.length_drop, hlen]; omega) h, sm_split] at this
      simpa using this
    · subst hm
      intro h
      have := tw_out smB (s.data.toList.drop 1) (by rw [List.length_drop, hlen]; omega)
      rw [drop_get s 1 _ (by rw [List.length_drop, hlen]; omega) h, sm_split] at this
      exact this
    · intro h
      unfold noteL
      rw [hnm, hlen, if_pos (hC.1 h)]
    · intro h
      unfold noteL
      rw [hnm, hlen, if_neg (fun e => h (hC.2 e))]
  obtain ⟨m, hm⟩ : ∃ m, m = ((s.data.toList.drop 1).takeWhile smB).length := ⟨_, rfl⟩
  refine ⟨m, hm, ?_⟩
  have hin : ∀ k, k < m → ∀ h : 1 + k < s.size, s[1 + k] ≠ 93 := fun k hk h e => by
    have := tw_in smB (s.data.toList.drop 1) k (by rw [List.length_drop, hlen]; omega) (by omega)
    rw [drop_get s 1 k (by rw [List.length_drop, hlen]; omega) h, e] at this
    exact absurd this (by decide)
  have hnm : nmN s.data.toList = 1 + m := by unfold nmN; rw [hm]
  constructor
  · rintro ⟨⟨_, a⟩, b, ⟨c, c2⟩, d, ⟨_, e⟩⟩
    have hi : Lib.indexByte s.data.toList 93 = ((s.size - 1 : Nat) : Int) := idx_uniq 93 _ _ ((get_eq s _ (by omega) 93).2 e) (fun j hj e2 => by
      have e3 := (get_eq s j (by omega) 93).1 e2
      by_cases j0 : j = 0
      · subst j0; rw [a] at e3; exact absurd e3 (by decide)
      · by_cases j1 : j < 1 + m
        · have := hin (j - 1) (by omega) (by omega)
          have e4 : 1 + (j - 1) = j := by omega
          simp only [e4] at this
          exact this e3
        · exact d j (by omega) (by omega) (by omega) e3)
    exact ⟨(take1_eq s h0 91).2 a, by rw [hi]; omega, by omega, (get_eq s _ c 58).2 c2⟩
  · rintro ⟨hp, b, c, d⟩
    obtain ⟨g1, g2, g3⟩ := idx_last hp (by rw [b, hlen])
    rw [hlen] at g1 g2 g3
    rw [hnm] at g3
    have hg := (idx_get 93 s.data.toList (by omega)).2
    exact ⟨⟨h0, (take1_eq s h0 91).1 hp⟩, by omega, ⟨by omega, (get_eq s _ (by omega) 58).1 d⟩, fun j h1 h2 h3 e => hg j (by omega) ((get_eq s j h2 93).2 e), ⟨by omega, (get_eq s _ (by omega) 93).1 g2⟩⟩
end Go.Proofs.YtlcgfgbdehdndaaDoor
