/- Contracts: point.Valid, point.Plain; the document's Points and Text; Same, Fault of the law's package. -/
import Derived.Test.YtjepdpmkcajddaaDoorP3
import Derived.Test.YtjepdpmkcajddaaDoorA4
namespace Go.Proofs.YtjepdpmkcajddaaDoor
open Go Go.RowKit
set_option maxRecDepth 100000

theorem Valid_any (s : ByteArray) (hs : s.size ≤ 140737488355328) (w : World) (hT : Tabs w) :
    Calls Tryd.prog 19 #[.string s] w fun e w' => e = .returned (.bool (Lib.validD s.data.toList)) ∧ Below w.heap.size w w' := by
  have hv := Any.utf8_ValidString Tryd.laysValid s w (by omega) hT
  go_enter Tryd.func19, Tryd.ntmps19
  go_wp2_with (go_at_call 27; refine hv.mono ?_; rintro e w1 ⟨rfl, hb1⟩)
  go_ret
  exact ⟨rfl, hb1⟩

def plainB (l : List UInt8) : Bool := l.all fun b => b.toNat < 128
def PlainRel (s : ByteArray) (i : Value) : Prop := ∃ k : Nat, k ≤ s.size ∧ i = .int .i64 k ∧ plainB (s.data.toList.take k) = true
theorem take_succ_getD (s : ByteArray) (k : Nat) (h : k < s.size) : s.data.toList.take (k + 1) = s.data.toList.take k ++ [s[k]] := by
  rw [List.take_succ_eq_append_getElem (by simpa using h)]; rfl
theorem plainB_snoc (a : List UInt8) (b : UInt8) : plainB (a ++ [b]) = (plainB a && decide (b.toNat < 128)) := by simp [plainB]
theorem plainB_take (l : List UInt8) (k : Nat) (h : plainB (l.take k) = false) : plainB l = false := by
  cases hp : plainB l with
  | false => rfl
  | true =>
    rw [← h]
    unfold plainB at hp ⊢
    rw [List.all_eq_true] at hp
    exact (List.all_eq_true.2 fun x hx => hp x (List.mem_of_mem_take hx)).symm
theorem Plain_any (s : ByteArray) (hs : s.size ≤ 140737488355328) (w : World) :
    Calls Tryd.prog 22 #[.string s] w fun e w' => e = .returned (.bool (plainB s.data.toList)) ∧ w = w' := by
  go_enter Tryd.func22, Tryd.ntmps22
  go_wp2_with fail
  go_loop [3] (fun i => PlainRel s i) (fun i => s.size - (intOf i).toNat)
  case atStart => exact ⟨0, Nat.zero_le _, rfl, rfl⟩
  case round =>
    rename_i hw0
    clear hw0
    obtain ⟨k, hk, rfl, hp⟩ := hrel
    have Hp := Lib.hid hp
    clear hp
    by_cases hlt : k < s.size
    · have Hs := Lib.hid (take_succ_getD s k hlt)
      have hb := (s[k]).toNat_lt
      go_wp2
      · go_ret
        refine ⟨ret_bool ?_, rfl⟩
        have h1 : plainB (s.data.toList.take (k + 1)) = false := by
          rw [Hs.out, plainB_snoc, Hp.out, Bool.true_and, decide_eq_false_iff_not]
          omega
        exact (plainB_take _ _ h1).symm
      · go_round
        case rel =>
          refine ⟨k + 1, by omega, by go_num, ?_⟩
          rw [Hs.out, plainB_snoc, Hp.out, Bool.true_and, decide_eq_true_eq]
          omega
        case measure => simp [intOf]; omega
    · have hk2 : k = s.size := by omega
      subst hk2
      go_wp2
      go_ret
      refine ⟨ret_bool ?_, rfl⟩
      have h := Hp.out
      rw [List.take_of_length_le (by simp)] at h
      exact h.symm

def SameRel (n : Nat) (w0 : World) (i : Value) (wr : World) : Prop := ∃ k : Nat, k ≤ n ∧ i = .int .i64 k ∧ Below w0.heap.size w0 wr
/-- The same numbers are the same, as the law's package looks at them. -/
theorem Same_refl (A C : Option Addr) (c d : Nat) (ps : List Int) (w : World) {B D : Nat} (hn : Nums w B .i32 A ps) (hm : Nums w D .i32 C ps) (hB : B ≤ w.heap.size) (hD : D ≤ w.heap.size) (hl : ps.length ≤ 140737488355328) :
    Calls Tryd.prog 17 #[.slice A ps.length c, .slice C ps.length d] w fun e w' => e = .returned (.bool true) ∧ Below w.heap.size w w' := by
  go_enter Tryd.func17, Tryd.ntmps17
  go_wp2
  go_loopw [13] (fun i wr => SameRel ps.length w i wr) (fun i _ => ps.length - (intOf i).toNat)
  case atStart => exact ⟨0, Nat.zero_le _, rfl, Below.refl _ _⟩
  case round =>
    obtain ⟨k, hk, rfl, hb⟩ := hrel
    have hnr := hn.below (hb.mono hB)
    have hmr := hm.below (hb.mono hD)
    by_cases hlt : k < ps.length
    · obtain ⟨ad, p, rfl, _, hc, hp, _⟩ := hnr.get hlt
      obtain ⟨ad2, p2, rfl, _, hc2, hp2, _⟩ := hmr.get hlt
      have : p2 = p := by rw [← hp.out, ← hp2.out]
      subst this
      clear hnr hmr hn hm hp hp2
      go_wp2
      go_region
      all_goals go_wp2
      all_goals go_roundw
      case rel => exact ⟨k + 1, by omega, by go_num, hb.drew⟩
      case measure => simp [intOf]; omega
    · have hk2 : k = ps.length := by omega
      subst hk2
      clear hnr hmr hn hm
      go_wp2
      go_ret
      exact ⟨rfl, hb⟩

theorem LFault_neg (a : Int) (h : a < 0) (w : World) :
    Calls Tryd.prog 21 #[.int .i64 a] w fun e w' => e = .returned (.agg #[.int .i64 0, .int .i64 0]) ∧ Below w.heap.size w w' := by
  go_enter Tryd.func21, Tryd.ntmps21
  go_wp2
  refine bodyPost_ret (v := .agg #[.int .i64 0, .int .i64 0]) (by simp [results, Tryd.results21, go_sem]) rfl ⟨rfl, ?_⟩
  repeat (first | exact Below.refl _ _ | refine Below.alloc ?_ (by simp) _ | refine Below.setCell ?_ (by simp) _)
theorem LFault_pos (a : Int) (h : 0 ≤ a) (w : World) :
    Calls Tryd.prog 21 #[.int .i64 a] w fun e w' => e = .returned (.agg #[.int .i64 2, .int .i64 a]) ∧ Below w.heap.size w w' := by
  go_enter Tryd.func21, Tryd.ntmps21
  go_wp2
  refine bodyPost_ret (v := .agg #[.int .i64 2, .int .i64 a]) (by simp [results, Tryd.results21, go_sem]) rfl ⟨rfl, ?_⟩
  repeat (first | exact Below.refl _ _ | refine Below.alloc ?_ (by simp) _ | refine Below.setCell ?_ (by simp) _)

theorem mk_append (a b : List UInt8) : (⟨a.toArray⟩ : ByteArray) ++ ⟨b.toArray⟩ = ⟨(a ++ b).toArray⟩ := by
  apply ByteArray.ext
  simp
def RTextRel (ps : List Int) (w0 : World) (s i : Value) (wr : World) : Prop := ∃ k : Nat, k ≤ ps.length ∧ i = .int .i64 k ∧ s = .string ⟨(textL (ps.take k)).toArray⟩ ∧ Below w0.heap.size w0 wr
theorem RText_good (A : Option Addr) (c : Nat) (ps : List Int) (w : World) {B : Nat} (hn : Nums w B .i32 A ps) (hB : B ≤ w.heap.size) (hps : ∀ p ∈ ps, scalarB p = true) (hl : ps.length ≤ 1000000) :
    Calls Tryd.prog 16 #[.slice A ps.length c] w fun e w' => e = .returned (.string ⟨(textL ps).toArray⟩) ∧ Below w.heap.size w w' := by
  go_enter Tryd.func16, Tryd.ntmps16
  go_wp2
  go_loopw [3, 4] (fun s i wr => RTextRel ps w s i wr) (fun _ i _ => ps.length - (intOf i).toNat)
  case atStart => exact ⟨0, Nat.zero_le _, rfl, rfl, Below.refl _ _⟩
  case round =>
    obtain ⟨k, hk, rfl, rfl, hb⟩ := hrel
    have hnr := hn.below (hb.mono hB)
    by_cases hlt : k < ps.length
    · obtain ⟨ad, p, rfl, _, hc, hp, hm⟩ := hnr.get hlt
      have hs := hps p hm
      have h4 := (len_textL (ps.take k)).2
      rw [List.length_take] at h4
      have he := enc_len p
      have hnext : Hid ((⟨(textL (ps.take (k + 1))).toArray⟩ : ByteArray) = ⟨(textL (ps.take k)).toArray⟩ ++ ⟨(Lib.encodeRune p).toArray⟩) := by
        rw [take_getD hlt, hp.out, textL_snoc]; exact (mk_append _ _).symm
      clear hnr hn hps
      go_wp2_with (go_at_call 12; refine (RBytes_any hs _).mono ?_; rintro e w1 ⟨rfl, hb1⟩)
      go_roundw
      case rel => exact ⟨k + 1, by omega, by go_num, by rw [hnext.out], hb.trans (hb1.mono hb.size)⟩
      case measure => simp [intOf]; omega
    · have hk2 : k = ps.length := by omega
      subst hk2
      rw [List.take_length]
      clear hnr hn hps
      go_wp2
      go_ret
      exact ⟨rfl, hb⟩
end Go.Proofs.YtjepdpmkcajddaaDoor
