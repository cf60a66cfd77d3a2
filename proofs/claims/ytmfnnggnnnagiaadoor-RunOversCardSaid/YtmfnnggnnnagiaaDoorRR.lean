/- Contracts of the reference's Join, Over. -/
import Derived.Test.YtmfnnggnnnagiaaDoorRQ
set_option maxRecDepth 100000
set_option maxHeartbeats 4000000
namespace Go.Proofs.YtmfnnggnnnagiaaDoor
open Go Go.RowKit

theorem fnd_has (l : List Pr) (c : Nat) : (0 ≤ fndL l (c : Int)) ↔ hasC l c = true := by
  unfold fndL
  rw [hasC_iff]
  cases h : l.findIdx? fun x => decide ((x.1 : Int) = (c : Int)) with
  | none =>
    rw [List.findIdx?_eq_none_iff] at h
    constructor
    · intro h2; simp only at h2; omega
    · rintro ⟨x, hx, hc⟩
      have := h x hx
      simp at this
      omega
  | some i =>
    rw [List.findIdx?_eq_some_iff_getElem] at h
    obtain ⟨h1, h2, _⟩ := h
    refine ⟨fun _ => ⟨l[i], List.getElem_mem h1, ?_⟩, fun _ => by simp only; omega⟩
    simp at h2
    omega
def JnPost (l more : List Pr) (w0 : World) (e : Ending) (w' : World) : Prop := (match joinL l more with
  | none => e = .returned (.tuple #[.slice none 0 0, .bool false])
  | some L => ∃ A c, e = .returned (.tuple #[.slice A L.length c, .bool true]) ∧ L.length ≤ c ∧ PrsL w' w'.heap.size A L) ∧ Below w0.heap.size w0 w'
def JaRel (l more : List Pr) (w0 : World) (i : Value) (wr : World) : Prop := ∃ k : Nat, k ≤ more.length ∧ i = .int .i64 k ∧ (∀ m ∈ more.take k, hasC l m.1 = false) ∧ Below w0.heap.size w0 wr
def JbRel (l more : List Pr) (w0 : World) (v i : Value) (wr : World) : Prop := ∃ (k : Nat) (A : Option Addr) (c : Nat) (L : List Pr), k ≤ more.length ∧ i = .int .i64 k ∧ v = .slice A L.length c ∧ L.length ≤ c ∧ L = (more.take k).foldl putL l ∧ L.length ≤ l.length + k ∧ PrsL wr wr.heap.size A L ∧ Below w0.heap.size w0 wr
theorem take_snoc {α : Type} {l : List α} {k : Nat} {x : α} (h : l[k]? = some x) : l.take (k + 1) = l.take k ++ [x] := by
  rw [List.take_add_one, h]; rfl
theorem RJoin_any (A1 A2 : Option Addr) (c1 c2 : Nat) (l more : List Pr) (hc1 : l.length ≤ c1) (hn : l.length + more.length ≤ 8388608) (w : World) (h1 : PrsL w w.heap.size A1 l) (h2 : PrsL w w.heap.size A2 more) :
    Calls Tryd.prog 27 #[.slice A1 l.length c1, .slice A2 more.length c2] w (JnPost l more w) := by
  generalize hP : JnPost l more w = P at *
  go_enter Tryd.func27, Tryd.ntmps27
  go_wp2_with fail
  go_loopw [6] (fun i wr => JaRel l more w i wr) (fun i _ => more.length - (intOf i).toNat)
  case atStart => exact ⟨0, by omega, rfl, by simp, Below.refl _ w⟩
  case round =>
    obtain ⟨k, hk, rfl, hno, hb⟩ := hrel
    have hz := hb.size
    by_cases hlt : k < more.length
    · obtain ⟨x, hx⟩ : ∃ x, more[k]? = some x := ⟨_, List.getElem?_eq_getElem hlt⟩
      obtain ⟨ad, rfl, hadb, y0, y1, _⟩ := (h2.below hb).pair hx
      have hfd := RFind_any A1 c1 l (x.1 : Int) (by omega) wr ((h1.below hb).more hz)
      cases hc : hasC l x.1 with
      | true =>
        have hge : (0 : Int) ≤ fndL l (x.1 : Int) := (fnd_has l x.1).2 hc
        have hj : joinL l more = none := by
          unfold joinL
          rw [if_pos (List.any_eq_true.2 ⟨x, List.mem_of_getElem? hx, hc⟩)]
        clear hno
        go_wp2_with (go_at_call 13; refine hfd.mono ?_; rintro e w3 ⟨rfl, hb3⟩; have HB3 := hb.trans (hb3.mono hz))
        show P (.returned (.tuple #[.slice none 0 0, .bool false])) w3
        rw [← hP]
        refine ⟨?_, HB3⟩
        rw [hj]
      | false =>
        have hge : ¬ (0 : Int) ≤ fndL l (x.1 : Int) := fun h => by rw [(fnd_has l x.1).1 h] at hc; cases hc
        have Hno := Lib.hid hno
        clear hno
        go_wp2_with (go_at_call 13; refine hfd.mono ?_; rintro e w3 ⟨rfl, hb3⟩; have HB3 := hb.trans (hb3.mono hz))
        refine ⟨⟨k + 1, by omega, by simp, fun m hm => ?_, HB3⟩, by simp [intOf]; omega⟩
        rw [take_snoc hx] at hm
        rcases List.mem_append.1 hm with hm | hm
        · exact Hno.out m hm
        · simp only [List.mem_singleton] at hm; subst hm; exact hc
    · obtain rfl : k = more.length := by omega
      rw [List.take_length] at hno
      have hj : joinL l more = some (more.foldl putL l) := by
        unfold joinL
        rw [if_neg]
        intro h
        obtain ⟨m, hm, h⟩ := List.any_eq_true.1 h
        rw [hno m hm] at h; cases h
      have Hj := Lib.hid hj
      clear hj hno
      go_wp2_with fail
      go_loopw [0, 7] (fun v i wr2 => JbRel l more w v i wr2) (fun _ i _ => more.length - (intOf i).toNat)
      case atStart => exact ⟨0, A1, c1, l, by omega, rfl, rfl, hc1, by simp, by omega, (h1.below hb).more hz, hb⟩
      case round =>
        obtain ⟨k, A3, c3, L, hk, rfl, rfl, hc3, hL, hLl, hr3, hb2⟩ := hrel
        have hz2 := hb2.size
        by_cases hlt : k < more.length
        · obtain ⟨x, hx⟩ : ∃ x, more[k]? = some x := ⟨_, List.getElem?_eq_getElem hlt⟩
          obtain ⟨ad, rfl, hadb, y0, y1, _⟩ := (h2.below hb2).pair hx
          have hpt := RPut_any A3 c3 L x (by omega) _ hr3
          have HL := Lib.hid hL
          clear hL hr3
          go_wp2_with (go_at_call 32; refine hpt.mono ?_; rintro e w3 ⟨A4, c4, rfl, hc4, hr4, hb3⟩; have HB3 := hb2.trans (hb3.mono hz2); have Hr4 := Lib.hid hr4; clear hr4)
          refine ⟨⟨k + 1, A4, c4, putL L x, by omega, by simp, rfl, hc4, ?_, by rw [putL_len]; omega, Hr4.out, HB3⟩, by simp [intOf]; omega⟩
          rw [take_snoc hx, List.foldl_append, ← HL.out]; rfl
        · obtain rfl : k = more.length := by omega
          rw [List.take_length] at hL
          have HL := Lib.hid hL
          have Hr3 := Lib.hid hr3
          clear hL hr3
          go_wp2_with fail
          show P (.returned (.tuple #[.slice A3 L.length c3, .bool true])) _
          rw [← hP]
          refine ⟨?_, hb2⟩
          rw [Hj.out, ← HL.out]
          exact ⟨A3, c3, rfl, hc3, Hr3.out⟩
def OfRel (l more : List Pr) (w0 : World) (v i : Value) (wr : World) : Prop := ∃ (k : Nat) (A : Option Addr) (c : Nat) (L : List Pr), k ≤ more.length ∧ i = .int .i64 k ∧ v = .slice A L.length c ∧ L.length ≤ c ∧ L = overL l (more.take k) ∧ L.length ≤ l.length + k ∧ PrsL wr wr.heap.size A L ∧ Below w0.heap.size w0 wr
theorem over_snoc {l more : List Pr} {k : Nat} {x : Pr} (h : more[k]? = some x) : overL l (more.take (k + 1)) = if hasC l x.1 = true then overL l (more.take k) else putL (overL l (more.take k)) x := by
  unfold overL
  rw [take_snoc h, List.foldl_append]; rfl
theorem ROver_any (A1 A2 : Option Addr) (c1 c2 : Nat) (l more : List Pr) (hc1 : l.length ≤ c1) (hn : l.length + more.length ≤ 8388608) (w : World) (h1 : PrsL w w.heap.size A1 l) (h2 : PrsL w w.heap.size A2 more) :
    Calls Tryd.prog 19 #[.slice A1 l.length c1, .slice A2 more.length c2] w (PuPost (overL l more) w) := by
  generalize hP : PuPost (overL l more) w = P at *
  go_enter Tryd.func19, Tryd.ntmps19
  go_wp2_with fail
  go_loopw [5, 6] (fun v i wr2 => OfRel l more w v i wr2) (fun _ i _ => more.length - (intOf i).toNat)
  case atStart => exact ⟨0, A1, c1, l, by omega, rfl, rfl, hc1, by simp [overL], by omega, h1, Below.refl _ w⟩
  case round =>
    obtain ⟨k, A3, c3, L, hk, rfl, rfl, hc3, hL, hLl, hr3, hb⟩ := hrel
    have hz := hb.size
    by_cases hlt : k < more.length
    · obtain ⟨x, hx⟩ : ∃ x, more[k]? = some x := ⟨_, List.getElem?_eq_getElem hlt⟩
      obtain ⟨ad, rfl, hadb, y0, y1, _⟩ := (h2.below hb).pair hx
      have hfd := RFind_any A1 c1 l (x.1 : Int) (by omega) wr ((h1.below hb).more hz)
      have hov := over_snoc (l := l) hx
      rw [← hL] at hov
      cases hc : hasC l x.1 with
      | true =>
        have hge : ¬ fndL l (x.1 : Int) < (0 : Int) := by have := (fnd_has l x.1).2 hc; omega
        rw [if_pos hc] at hov
        have HL := Lib.hid hov
        have Hr3 := Lib.hid hr3
        clear hL hr3 hov
        go_wp2_with (go_at_call 13; refine hfd.mono ?_; rintro e w3 ⟨rfl, hb3⟩; have HB3 := hb.trans (hb3.mono hz))
        exact ⟨⟨k + 1, A3, c3, L, by omega, by simp, rfl, hc3, HL.out.symm, by omega, (Hr3.out.below hb3).more hb3.size, HB3⟩, by simp [intOf]; omega⟩
      | false =>
        have hge : fndL l (x.1 : Int) < (0 : Int) := by
          rcases Int.lt_or_le (fndL l (x.1 : Int)) 0 with h | h
          · exact h
          · rw [(fnd_has l x.1).1 h] at hc; cases hc
        rw [if_neg (by rw [hc]; simp)] at hov
        have HL := Lib.hid hov
        have hpt := fun w3 (hb3 : Below wr.heap.size wr w3) => RPut_any A3 c3 L x (by omega) w3 ((hr3.below hb3).more hb3.size)
        have hpr := fun w3 (hb3 : Below wr.heap.size wr w3) => (h2.below (hb.trans (hb3.mono hz))).pair hx
        clear hL hr3 hov
        go_wp2_with (first | (go_at_call 13; refine hfd.mono ?_; rintro e w3 ⟨rfl, hb3⟩; have HB3 := hb.trans (hb3.mono hz); obtain ⟨ad', hA', _, y0', y1', _⟩ := hpr _ hb3; injection hA' with hA'; subst hA') | (go_at_call 32; refine (hpt _ hb3).mono ?_; rintro e w4 ⟨A4, c4, rfl, hc4, hr4, hb4⟩; have HB4 := HB3.trans (hb4.mono HB3.size); have Hr4 := Lib.hid hr4; clear hr4))
        exact ⟨⟨k + 1, A4, c4, putL L x, by omega, by simp, rfl, hc4, HL.out.symm, by rw [putL_len]; omega, Hr4.out, HB4⟩, by simp [intOf]; omega⟩
    · obtain rfl : k = more.length := by omega
      rw [List.take_length] at hL
      have HL := Lib.hid hL
      have Hr3 := Lib.hid hr3
      clear hL hr3
      go_wp2_with fail
      show P (.returned (.slice A3 L.length c3)) _
      rw [← hP, ← HL.out]
      exact ⟨A3, c3, rfl, hc3, Hr3.out, hb⟩
end Go.Proofs.YtmfnnggnnnagiaaDoor
