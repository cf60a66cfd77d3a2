/- Contracts: the document's Nth, Sign, Byte, Decode, Encode of chapter 5; conditions: the charset is one of the four, small lengths. -/
import Derived.Test.YtpnjandlpbjddabDoorKE
import Derived.Test.YtpnjandlpbjddabDoorP5
set_option maxRecDepth 100000
set_option maxHeartbeats 1000000
namespace Go.Proofs.YtpnjandlpbjddabDoor
open Go Go.RowKit

def NtRel (ps : List Int) (n : Nat) (w0 : World) (v1 v5 : Value) (wr : World) : Prop := ∃ k i : Nat, Run ps k i ∧ k ≤ n ∧ v1 = .int .i64 ((n - k : Nat) : Int) ∧ v5 = .int .i64 i ∧ Below w0.heap.size w0 wr
theorem RNth_any (s : ByteArray) (ps : List Int) (hg : Good s ps) (n : Nat) (hn : n < ps.length) (hs : s.size ≤ 100000) (w : World) :
    Calls Tryd.prog 30 #[.string s, .int .i64 n] w fun e w' => e = .returned (.int .i32 (ps.getD n 0)) ∧ Below w.heap.size w w' := by
  have hlen := hg.len
  have hp4 := hg.pre
  have HP : Hid (∀ w', Below w.heap.size w w' → (fun e w' => e = Ending.returned (.int .i32 (ps.getD n 0)) ∧ Below w.heap.size w w') (.returned (.int .i32 (ps.getD n 0))) w') := Lib.hid fun w' hb => ⟨rfl, hb⟩
  generalize (fun (e : Ending) (w' : World) => e = Ending.returned (.int .i32 (ps.getD n 0)) ∧ Below w.heap.size w w') = P at *
  go_enter Tryd.func30, Tryd.ntmps30
  go_wp2_with fail
  go_loopw [1, 5] (fun v1 v5 wr => NtRel ps n w v1 v5 wr) (fun v1 _ _ => (intOf v1).toNat)
  case atStart => exact ⟨0, 0, Run.zero _, by omega, rfl, rfl, Below.refl _ _⟩
  case round =>
    obtain ⟨k, i, hrun, hk, rfl, rfl, hb⟩ := hrel
    obtain ⟨p, m, hst, hrun', hn1, hn4, hin, hp0, hp1, _⟩ := hrun.step hp4 (by omega)
    have hat := fun W => RAt_step hst (by omega) (by omega) W
    have hpk : p = ps.getD k 0 := hst.2.2.1
    have Hpk := Lib.hid hpk
    clear hpk hst
    have hm0 : ((m : Int) == 0) = false := by rw [beq_eq_false_iff_ne]; omega
    by_cases hkn : k = n
    · subst hkn
      have h0 : (((k - k : Nat) : Int) == 0) = true := by simp
      rw [Nat.sub_self]
      go_wp2_with (go_at_call 52; refine (hat _).mono ?_; rintro e w1 ⟨rfl, hb1⟩)
      show P (.returned (.int .i32 p)) _
      rw [Hpk.out]
      exact HP.out _ (hb.trans (hb1.mono hb.size))
    · have h0 : (((n - k : Nat) : Int) == 0) = false := by rw [beq_eq_false_iff_ne]; omega
      go_wp2_with (go_at_call 52; refine (hat _).mono ?_; rintro e w1 ⟨rfl, hb1⟩)
      refine ⟨⟨k + 1, i + m, hrun', by omega, by congr 1; omega, by simp, hb.trans (hb1.mono hb.size)⟩, by simp [intOf]; omega⟩
def sgnX (c n : Nat) (fr ff fo : Nat → Int) : Int :=
  if c = 0 ∨ n < 128 then n
  else if c = 3 then
    if n < 176 then (1040 + n - 128 : Int) else if n < 224 then ff (n - 176) else if n < 240 then (1088 + n - 224 : Int) else fo (n - 240)
  else if c = 2 then ((ukrL.find? fun x => x.1 == n).map (·.2)).getD (fr (n - 128))
  else fr (n - 128)
theorem sgnX_eq (c n : Nat) : sgnL c n = sgnX c n (fun k => rusL.getD k 0) (fun k => frmL.getD k 0) (fun k => othL.getD k 0) := rfl
theorem rus_good : Good (lB (textL rusL)) rusL := good_text fun p hp => List.all_eq_true.1 rus_all p hp
theorem frm_good : Good (lB (textL frmL)) frmL := good_text fun p hp => List.all_eq_true.1 frm_all p hp
theorem oth_good : Good (lB (textL othL)) othL := good_text fun p hp => List.all_eq_true.1 oth_all p hp
end Go.Proofs.YtpnjandlpbjddabDoor
