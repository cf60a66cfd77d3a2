/- Contracts: package point's scan, and what stands on it (Check, Count); Fault.Bad. -/
import Derived.Test.YtpnjandlpbjddabDoorRows
import Derived.Test.YtpnjandlpbjddabDoorLaws
import Derived.Test.YtpnjandlpbjddabDoorMathR
import Derived.WalkKit
import Derived.WalkSpells
import Derived.Outline
import Derived.Deep.DeepFit
namespace Go.Proofs.YtpnjandlpbjddabDoor
open Go Go.RowKit

def Tabs (w : World) : Prop := Lib.Utf8Tabs 1 2 w

theorem Bad_any (e a : Int) (w : World) :
    Calls Tryd.prog 9 #[.agg #[.int .i64 e, .int .i64 a]] w fun x w' => x = .returned (.bool (e != 0)) ∧ Below w.heap.size w w' := by
  go_enter Tryd.func9, Tryd.ntmps9
  go_wp2
  go_ret
  exact ⟨rfl, (Below.refl _ _).alloc (Nat.le_refl _) _⟩

theorem Dec_good (s : ByteArray) (i : Nat) (p : Int) (t : List UInt8) (hd : s.data.toList.drop i = Lib.encodeRune p ++ t) (hp : scalarB p = true) (w : World) (hT : Tabs w) :
    Calls Tryd.prog 62 #[.string (s.extract i s.size)] w fun e w' => e = .returned (.tuple #[.int .i32 p, .int .i64 (Lib.encodeRune p).length]) ∧ Below w.heap.size w w' := by
  have hi : i < s.size := by
    have h1 := congrArg List.length hd
    have h2 := (enc_len p).1
    have h4 : s.data.toList.length = s.size := by simp
    rw [List.length_drop, List.length_append, h4] at h1
    omega
  have h := Tryd.utf8_DecodeRuneInString (s.extract i s.size) w hT
  rw [dec_ext s i hi, hd, decL_enc hp] at h
  have e : ((p.toNat : Nat) : Int) = p := by have := scalarB_iff.1 hp; omega
  simp only [e] at h
  exact h
theorem Dec_bad (s : ByteArray) (i : Nat) (hi : i < s.size) (hd : errD (decL (s.data.toList.drop i))) (w : World) (hT : Tabs w) :
    Calls Tryd.prog 62 #[.string (s.extract i s.size)] w fun e w' => (∃ n : Nat, n ≤ 1 ∧ e = .returned (.tuple #[.int .i32 65533, .int .i64 n])) ∧ Below w.heap.size w w' := by
  have h := Tryd.utf8_DecodeRuneInString (s.extract i s.size) w hT
  rw [dec_ext s i hi] at h
  refine h.mono fun e w' ⟨he, hb⟩ => ⟨⟨_, hd.2, ?_⟩, hb⟩
  rw [he, hd.1]; rfl

theorem Tabs_below {w w' : World} (h : Tabs w) {B : Nat} (hb : Below B w w') (hB : w.heap.size ≤ B) : Tabs w' := Utf8Tabs_below h (hb.mono hB)

def ScanRel (ps : List Int) (w0 : World) (n at_ : Value) (wr : World) : Prop :=
  ∃ k i : Nat, n = .int .i64 k ∧ at_ = .int .i64 i ∧ Run ps k i ∧ Below (w0.heap.size + 1) (w0.alloc (.cells #[.int .i64 0, .int .i64 0] 33)) wr


theorem Dec_step {s : ByteArray} {ps : List Int} {k i n : Nat} {p : Int} (h : Step s ps k i p n) (w : World) (hT : Tabs w) :
    Calls Tryd.prog 62 #[.string (s.extract i s.size)] w fun e w' => e = .returned (.tuple #[.int .i32 p, .int .i64 n]) ∧ Below w.heap.size w w' := by
  obtain ⟨⟨t, ht⟩, hn, _, hs⟩ := h
  subst hn
  exact Dec_good s i p t ht hs w hT

theorem scan_pre (s : ByteArray) (ps : List Int) (r : List UInt8) (hp : Pre s ps r) (hr : r = [] ∨ errD (decL r)) (hs : s.size ≤ 140737488355328) (w : World) (hT : Tabs w) :
    Calls Tryd.prog 43 #[.string s] w fun e w' =>
      ((r = [] ∧ e = .returned (.tuple #[.int .i64 ps.length, .agg #[.int .i64 0, .int .i64 0]])) ∨ (r ≠ [] ∧ e = .returned (.tuple #[.int .i64 0, .agg #[.int .i64 2, .int .i64 (textL ps).length]]))) ∧ Below w.heap.size w w' := by
  go_enter Tryd.func43, Tryd.ntmps43
  go_wp2_with fail
  go_loopw [4, 5] (fun n i wr => ScanRel ps w n i wr) (fun _ i _ => s.size - (intOf i).toNat)
  case atStart => exact ⟨0, 0, rfl, rfl, Run.zero _, Below.refl _ _⟩
  case round =>
    obtain ⟨k, i, rfl, rfl, hrun, hb⟩ := hrel
    have hle := hrun.le hp
    obtain ⟨hc0, hc1, hf0, hf1, hsz⟩ := box2 hb
    have hTr : Tabs wr := Tabs_below (Tabs_below hT (Below.alloc (Below.refl (w.heap.size) w) (Nat.le_refl _) _) (Nat.le_refl _)) hb (by simp)
    by_cases hk : k < ps.length
    · obtain ⟨p, n, hst, hrun', hn1, hn4, hin, _, _, hq⟩ := hrun.step hp hk
      rcases hq with hq | ⟨rfl, hq⟩
      all_goals
        go_wp2_with (go_at_call 62; refine (Dec_step hst _ hTr).mono ?_; rintro e w' ⟨rfl, hb'⟩)
        go_roundw
        case rel => exact ⟨k + 1, i + n, by go_num, by go_num, hrun', hb.trans (hb'.mono (by omega))⟩
        case measure => simp [intOf]; omega
    · have hk2 : k = ps.length := by omega
      subst hk2
      obtain ⟨hi, hdr, hir⟩ := hrun.end_ hp
      by_cases hr0 : r = []
      · have hge : ¬ i < s.size := by rw [hr0] at hir; simp at hir; omega
        clear hdr hir hi
        go_wp2_with fail
        refine bodyPost_ret (v := .tuple #[.int .i64 ps.length, .agg #[.int .i64 0, .int .i64 0]]) (by simp [results, Tryd.results43, go_sem, hc0, hc1]) rfl ⟨.inl ⟨hr0, rfl⟩, ?_⟩
        exact (((((Below.refl _ w).alloc (Nat.le_refl _) _).trans (hb.mono (by omega))).setCell (Nat.le_refl _) _).setCell (Nat.le_refl _) _)
      · have hlt : i < s.size := by have := List.length_pos_iff.2 hr0; omega
        have he : errD (decL (s.data.toList.drop i)) := by rw [hdr]; exact hr.resolve_left hr0
        have Hi := Lib.hid hi
        clear hdr hir hi
        go_wp2_with (go_at_call 62; refine (Dec_bad s i hlt he _ hTr).mono ?_; rintro e w' ⟨⟨n, hn, rfl⟩, hb'⟩; have hb2 := hb'.mono (B' := w.heap.size + 1) (by omega); have hb3 := hb.trans hb2; obtain ⟨hc0', hc1', hf0', hf1', hsz'⟩ := box2 hb3)
        rw [Hi.out]
        refine bodyPost_ret (v := .tuple #[.int .i64 0, .agg #[.int .i64 2, .int .i64 (textL ps).length]]) (by simp [results, Tryd.results43, go_sem, hc0', hc1']) rfl ⟨.inr ⟨hr0, rfl⟩, ?_⟩
        exact (((((Below.refl _ w).alloc (Nat.le_refl _) _).trans (hb3.mono (by omega))).setCell (Nat.le_refl _) _).setCell (Nat.le_refl _) _)

theorem scan_good (s : ByteArray) (ps : List Int) (hg : Good s ps) (hs : s.size ≤ 140737488355328) (w : World) (hT : Tabs w) :
    Calls Tryd.prog 43 #[.string s] w fun e w' => e = .returned (.tuple #[.int .i64 ps.length, .agg #[.int .i64 0, .int .i64 0]]) ∧ Below w.heap.size w w' :=
  (scan_pre s ps [] hg.pre (.inl rfl) hs w hT).mono fun _ _ ⟨h, hb⟩ => by
    rcases h with ⟨_, h⟩ | ⟨h, _⟩
    · exact ⟨h, hb⟩
    · exact absurd rfl h
theorem scan_bad (s : ByteArray) (n : Nat) (hg : BadAt s n) (hs : s.size ≤ 140737488355328) (w : World) (hT : Tabs w) :
    Calls Tryd.prog 43 #[.string s] w fun e w' => e = .returned (.tuple #[.int .i64 0, .agg #[.int .i64 2, .int .i64 n]]) ∧ Below w.heap.size w w' := by
  obtain ⟨ps, r, hp, rfl, hr, he⟩ := hg.pre
  refine (scan_pre s ps r hp (.inr he) hs w hT).mono fun _ _ ⟨h, hb⟩ => ?_
  rcases h with ⟨h, _⟩ | ⟨_, h⟩
  · exact absurd h hr
  · exact ⟨h, hb⟩


theorem tabs_alloc {w : World} (h : Tabs w) (o : Obj) : Tabs (w.alloc o) := Tabs_below h ((Below.refl _ _).alloc (Nat.le_refl _) _) (Nat.le_refl _)

theorem Check_good (s : ByteArray) (ps : List Int) (hg : Good s ps) (hs : s.size ≤ 140737488355328) (w : World) (hT : Tabs w) :
    Calls Tryd.prog 23 #[.string s] w fun e w' => e = .returned (.agg #[.int .i64 0, .int .i64 0]) ∧ Below w.heap.size w w' := by
  go_enter Tryd.func23, Tryd.ntmps23
  go_wp2_with (go_at_call 43; refine (scan_good s ps hg hs _ (by first | exact hT | exact tabs_alloc hT _)).mono ?_; rintro e w1 ⟨rfl, hb1⟩; have hz0 := hb1.size; try (obtain ⟨hc0, hc1, hf0, hf1, hz1⟩ := box2 (hb1.mono (by simp))))
  refine bodyPost_ret (v := .agg #[.int .i64 0, .int .i64 0]) (by simp [results, Tryd.results23, go_sem, hc0, hc1, hz1]) rfl ⟨rfl, ?_⟩
  (repeat (first | exact below_a1 hb1 | exact hb1 | refine Below.alloc ?_ (by first | exact Nat.le_refl _ | exact hz0 | (simp; done) | (simp; omega)) _ | refine Below.setCell ?_ (by first | exact Nat.le_refl _ | exact hz0 | (simp; done) | (simp; omega)) _))

theorem Check_bad (s : ByteArray) (n : Nat) (hg : BadAt s n) (hs : s.size ≤ 140737488355328) (w : World) (hT : Tabs w) :
    Calls Tryd.prog 23 #[.string s] w fun e w' => e = .returned (.agg #[.int .i64 2, .int .i64 n]) ∧ Below w.heap.size w w' := by
  go_enter Tryd.func23, Tryd.ntmps23
  go_wp2_with (go_at_call 43; refine (scan_bad s n hg hs _ (by first | exact hT | exact tabs_alloc hT _)).mono ?_; rintro e w1 ⟨rfl, hb1⟩; have hz0 := hb1.size; try (obtain ⟨hc0, hc1, hf0, hf1, hz1⟩ := box2 (hb1.mono (by simp))))
  refine bodyPost_ret (v := .agg #[.int .i64 2, .int .i64 n]) (by simp [results, Tryd.results23, go_sem, hc0, hc1, hz1]) rfl ⟨rfl, ?_⟩
  (repeat (first | exact below_a1 hb1 | exact hb1 | refine Below.alloc ?_ (by first | exact Nat.le_refl _ | exact hz0 | (simp; done) | (simp; omega)) _ | refine Below.setCell ?_ (by first | exact Nat.le_refl _ | exact hz0 | (simp; done) | (simp; omega)) _))

theorem Count_good (s : ByteArray) (ps : List Int) (hg : Good s ps) (hs : s.size ≤ 140737488355328) (w : World) (hT : Tabs w) :
    Calls Tryd.prog 24 #[.string s] w fun e w' => e = .returned (.int .i64 ps.length) ∧ Below w.heap.size w w' := by
  go_enter Tryd.func24, Tryd.ntmps24
  go_wp2_with (go_at_call 43; refine (scan_good s ps hg hs _ (by first | exact hT | exact tabs_alloc hT _)).mono ?_; rintro e w1 ⟨rfl, hb1⟩; have hz0 := hb1.size; try (obtain ⟨hc0, hc1, hf0, hf1, hz1⟩ := box2 (hb1.mono (by simp))))
  go_ret
  exact ⟨rfl, by (repeat (first | exact below_a1 hb1 | exact hb1 | refine Below.alloc ?_ (by first | exact Nat.le_refl _ | exact hz0 | (simp; done) | (simp; omega)) _ | refine Below.setCell ?_ (by first | exact Nat.le_refl _ | exact hz0 | (simp; done) | (simp; omega)) _))⟩

theorem Count_bad (s : ByteArray) (n : Nat) (hg : BadAt s n) (hs : s.size ≤ 140737488355328) (w : World) (hT : Tabs w) :
    Calls Tryd.prog 24 #[.string s] w fun e w' => e = .returned (.int .i64 0) ∧ Below w.heap.size w w' := by
  go_enter Tryd.func24, Tryd.ntmps24
  go_wp2_with (go_at_call 43; refine (scan_bad s n hg hs _ (by first | exact hT | exact tabs_alloc hT _)).mono ?_; rintro e w1 ⟨rfl, hb1⟩; have hz0 := hb1.size; try (obtain ⟨hc0, hc1, hf0, hf1, hz1⟩ := box2 (hb1.mono (by simp))))
  go_ret
  exact ⟨rfl, by (repeat (first | exact below_a1 hb1 | exact hb1 | refine Below.alloc ?_ (by first | exact Nat.le_refl _ | exact hz0 | (simp; done) | (simp; omega)) _ | refine Below.setCell ?_ (by first | exact Nat.le_refl _ | exact hz0 | (simp; done) | (simp; omega)) _))⟩
end Go.Proofs.YtpnjandlpbjddabDoor
