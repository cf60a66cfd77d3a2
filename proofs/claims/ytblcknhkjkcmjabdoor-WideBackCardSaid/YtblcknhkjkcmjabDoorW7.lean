/- Contracts of the document's answer for layer 3: Units, Decode; condition: fewer than 2^45 bytes. -/
import Derived.Test.YtblcknhkjkcmjabDoorW6
set_option maxRecDepth 100000
set_option maxHeartbeats 1000000
namespace Go.Proofs.YtblcknhkjkcmjabDoor
open Go Go.RowKit

def unitsL (big : Bool) : List UInt8 → List Int
  | a :: b :: r => unitB big a b :: unitsL big r
  | _ => []
theorem unitsL_len (big : Bool) : ∀ l : List UInt8, (unitsL big l).length = l.length / 2
  | [] => rfl
  | [_] => by simp [unitsL]
  | a :: b :: r => by
    have := unitsL_len big r
    simp only [unitsL, List.length_cons, this]
    omega
theorem unitsL_drop (big : Bool) : ∀ (i : Nat) (l : List UInt8), unitsL big (l.drop (2 * i)) = (unitsL big l).drop i
  | 0, l => rfl
  | i + 1, [] => by simp [unitsL]
  | i + 1, [x] => by
    have : [x].drop (2 * (i + 1)) = ([] : List UInt8) := by rw [List.drop_eq_nil_iff]; simp; omega
    rw [this]; simp [unitsL]
  | i + 1, a :: b :: r => by
    have : (a :: b :: r).drop (2 * (i + 1)) = r.drop (2 * i) := by
      rw [show 2 * (i + 1) = 2 * i + 1 + 1 from by omega, List.drop_succ_cons, List.drop_succ_cons]
    rw [this, unitsL_drop big i r]
    rfl
def usign : List Int → Int × Nat
  | u :: r => if u < 55296 ∨ 57344 ≤ u then (u, 1) else if 56320 ≤ u then (0, 0) else
    match r with
    | v :: _ => if v < 56320 ∨ 57344 ≤ v then (0, 0) else (65536 + (u - 55296) * 1024 + (v - 56320), 2)
    | [] => (0, 0)
  | [] => (0, 0)
theorem wsign_usign (big : Bool) : ∀ l : List UInt8, wsign big l = ((usign (unitsL big l)).1, 2 * (usign (unitsL big l)).2)
  | [] => rfl
  | [_] => rfl
  | [a, b] => by
    simp only [wsign, unitsL, usign]
    repeat' split
    all_goals rfl
  | [a, b, c] => by
    simp only [wsign, unitsL, usign]
    repeat' split
    all_goals rfl
  | a :: b :: c :: d :: r => by
    simp only [wsign, unitsL, usign]
    repeat' split
    all_goals rfl
theorem usign_one {us : List Int} {p : Int} (h : usign us = (p, 1)) : ∃ r, us = p :: r ∧ (p < 55296 ∨ 57344 ≤ p) := by
  match us with
  | [] => simp [usign] at h
  | u :: r =>
    simp only [usign] at h
    by_cases c : u < 55296 ∨ 57344 ≤ u
    · rw [if_pos c] at h
      obtain rfl := (Prod.ext_iff.1 h).1
      exact ⟨r, rfl, c⟩
    · rw [if_neg c] at h
      by_cases c2 : 56320 ≤ u
      · rw [if_pos c2] at h; simp at h
      · rw [if_neg c2] at h
        match r with
        | [] => simp at h
        | v :: _ =>
          simp only at h
          split at h <;> simp at h
theorem usign_two {us : List Int} {p : Int} (h : usign us = (p, 2)) : ∃ u v r, us = u :: v :: r ∧ 55296 ≤ u ∧ u < 56320 ∧ 56320 ≤ v ∧ v < 57344 ∧ p = 65536 + (u - 55296) * 1024 + (v - 56320) := by
  match us with
  | [] => simp [usign] at h
  | u :: r =>
    simp only [usign] at h
    by_cases c : u < 55296 ∨ 57344 ≤ u
    · rw [if_pos c] at h; simp at h
    · rw [if_neg c] at h
      by_cases c2 : 56320 ≤ u
      · rw [if_pos c2] at h; simp at h
      · rw [if_neg c2] at h
        match r with
        | [] => simp at h
        | v :: r =>
          simp only at h
          by_cases c3 : v < 56320 ∨ 57344 ≤ v
          · rw [if_pos c3] at h; simp at h
          · rw [if_neg c3] at h
            exact ⟨u, v, r, rfl, by omega, by omega, by omega, by omega, ((Prod.ext_iff.1 h).1).symm⟩
theorem usign_no {us : List Int} (h : (usign us).2 = 0) (hne : us ≠ []) : ∃ u r, us = u :: r ∧ 55296 ≤ u ∧ u < 57344 ∧ (56320 ≤ u ∨ (u < 56320 ∧ r = []) ∨ (u < 56320 ∧ ∃ v t, r = v :: t ∧ (v < 56320 ∨ 57344 ≤ v))) := by
  match us with
  | [] => exact absurd rfl hne
  | u :: r =>
    simp only [usign] at h
    by_cases c : u < 55296 ∨ 57344 ≤ u
    · rw [if_pos c] at h; simp at h
    · rw [if_neg c] at h
      refine ⟨u, r, rfl, by omega, by omega, ?_⟩
      by_cases c2 : 56320 ≤ u
      · exact .inl c2
      · rw [if_neg c2] at h
        match r with
        | [] => exact .inr (.inl ⟨by omega, rfl⟩)
        | v :: r =>
          simp only at h
          by_cases c3 : v < 56320 ∨ 57344 ≤ v
          · exact .inr (.inr ⟨by omega, v, r, rfl, c3⟩)
          · rw [if_neg c3] at h; simp at h

theorem drop_get {us : List Int} {i : Nat} {u : Int} {r : List Int} (h : us.drop i = u :: r) : i < us.length ∧ us.getD i 0 = u := by
  have h0 : i < us.length := by
    have := congrArg List.length h
    simp at this
    omega
  rw [List.drop_eq_getElem_cons h0] at h
  refine ⟨h0, ?_⟩
  rw [List.getD, List.getElem?_eq_getElem h0]
  exact (List.cons.inj h).1
theorem drop_get2 {us : List Int} {i : Nat} {u v : Int} {r : List Int} (h : us.drop i = u :: v :: r) : i + 1 < us.length ∧ us.getD i 0 = u ∧ us.getD (i + 1) 0 = v := by
  obtain ⟨h0, h1⟩ := drop_get h
  have h2 : us.drop (i + 1) = v :: r := by
    rw [List.drop_eq_getElem_cons h0] at h
    exact (List.cons.inj h).2
  obtain ⟨h3, h4⟩ := drop_get h2
  exact ⟨h3, h1, h4⟩

def UnitsRel (big : Bool) (s : ByteArray) (w0 : World) (v i : Value) (wr : World) : Prop :=
  ∃ k : Nat, 2 * k ≤ s.size ∧ i = .int .i64 (2 * k + 1) ∧ wr.ownsRow w0.heap.size 3 1 v k (((unitsL big s.data.toList).take k).map (Value.int .i64)) ∧ Below w0.heap.size w0 wr
theorem int_info : (Tryd.prog.info? 3).map (fun i => (i.zero, i.size, i.bytes)) = some (some (.int .i64 0), 1, 8) := by kernel_rfl
theorem unit_next (big : Bool) (s : ByteArray) (k : Nat) (h : 2 * k + 1 < s.size) : (unitsL big s.data.toList).take (k + 1) = (unitsL big s.data.toList).take k ++ [unitB big s[2 * k] s[2 * k + 1]] := by
  have hl := unitsL_len big s.data.toList
  have hs : s.data.toList.length = s.size := by simp
  have hk : k < (unitsL big s.data.toList).length := by omega
  rw [take_getD hk]
  have hd := drop_two s (2 * k) h
  have hu := unitsL_drop big k s.data.toList
  rw [hd] at hu
  have := (drop_get (us := unitsL big s.data.toList) (i := k) hu.symm).2
  rw [this]

end Go.Proofs.YtblcknhkjkcmjabDoor
