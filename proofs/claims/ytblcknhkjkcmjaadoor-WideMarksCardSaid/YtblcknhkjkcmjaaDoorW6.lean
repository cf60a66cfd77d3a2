/- Contracts of the document's answer for layer 3: Unit, Units, two, Encode; conditions: fewer than 2^45 bytes, below a million signs. -/
import Derived.Test.YtblcknhkjkcmjaaDoorW5
import Derived.Test.YtblcknhkjkcmjaaDoorLin
set_option maxRecDepth 100000
set_option maxHeartbeats 1000000
namespace Go.Proofs.YtblcknhkjkcmjaaDoor
open Go Go.RowKit

theorem RUnit_any (a b : UInt8) (big : Bool) (w : World) :
    Calls Tryd.prog 82 #[.int .u8 (a.toNat : Int), .int .u8 (b.toNat : Int), .bool big] w fun e w' => e = .returned (.int .i64 (unitB big a b)) ∧ w = w' := by
  have h0 := a.toNat_lt
  have h1 := b.toNat_lt
  go_enter Tryd.func82, Tryd.ntmps82
  cases big
  · go_wp2_with fail
    go_ret
    exact ⟨ret_int (by simp [unitB]), rfl⟩
  · go_wp2_with fail
    go_ret
    exact ⟨ret_int (by simp [unitB]), rfl⟩

theorem RTwo_any (u : Int) (hu : 0 ≤ u ∧ u < 65536) (big : Bool) (w : World) :
    Calls Tryd.prog 61 #[.int .i32 u, .bool big] w fun e w' => e = .returned (.string ⟨(two big u).toArray⟩) ∧ Below w.heap.size w w' := by
  have h0 := hu.1
  have h1 := hu.2
  have hc : ∀ (a b : Int) (c : Nat) (w : World), _ := fun a b c w => conv2 (P := Tryd.prog) 37 9 5 Tryd.underlying37 Tryd.underlying5 Tryd.underlying9 w a b c
  go_enter Tryd.func61, Tryd.ntmps61
  cases big
  · go_wp2_with fail
    go_ret
    exact ⟨rfl, (Below.refl _ _).alloc (Nat.le_refl _) _⟩
  · go_wp2_with fail
    go_ret
    exact ⟨rfl, (Below.refl _ _).alloc (Nat.le_refl _) _⟩

def REncRel (big : Bool) (ps : List Int) (w0 : World) (s i : Value) (wr : World) : Prop := ∃ k : Nat, k ≤ ps.length ∧ i = .int .i64 k ∧ s = .string ⟨(wtext big (ps.take k)).toArray⟩ ∧ Below w0.heap.size w0 wr
theorem REncode_good (big : Bool) (A : Option Addr) (c : Nat) (ps : List Int) (w : World) {B : Nat} (hn : Nums w B .i32 A ps) (hB : B ≤ w.heap.size) (hps : ∀ p ∈ ps, scalarB p = true) (hl : ps.length ≤ 1000000) :
    Calls Tryd.prog 31 #[.slice A ps.length c, .bool big] w fun e w' => e = .returned (.string ⟨(wtext big ps).toArray⟩) ∧ Below w.heap.size w w' := by
  go_enter Tryd.func31, Tryd.ntmps31
  go_wp2
  go_loopw [5, 6] (fun s i wr => REncRel big ps w s i wr) (fun _ i _ => ps.length - (intOf i).toNat)
  case atStart => exact ⟨0, Nat.zero_le _, rfl, rfl, Below.refl _ _⟩
  case round =>
    obtain ⟨k, hk, rfl, rfl, hb⟩ := hrel
    have hnr := hn.below (hb.mono hB)
    have hsz := hb.size
    by_cases hlt : k < ps.length
    · obtain ⟨ad, p, rfl, _, hc, hp, hm⟩ := hnr.get hlt
      have hs := scalarB_iff.1 (hps p hm)
      have h4 := (len_wtext big (ps.take k)).2
      rw [List.length_take] at h4
      have hnext : Hid (wtext big (ps.take (k + 1)) = wtext big (ps.take k) ++ wenc big p) := by
        rw [take_getD hlt, hp.out, wtext_snoc]; rfl
      clear hnr hn hps
      by_cases hlow : p < 65536
      · have hez : Hid (wenc big p = two big p) := if_pos hlow
        have hl2 := two_len big p
        go_wp2_with (go_at_call 61; refine (RTwo_any _ ⟨by omega, by omega⟩ big _).mono ?_; rintro e w1 ⟨rfl, hb1⟩)
        go_roundw
        case rel => exact ⟨k + 1, by omega, by go_num, by rw [hnext.out, hez.out, ← mk_append], hb.trans (hb1.mono hb.size)⟩
        case measure => simp [intOf]; omega
      · have hez : Hid (wenc big p = two big (55296 + (p - 65536) / 1024) ++ two big (56320 + (p - 65536) % 1024)) := if_neg hlow
        have hl2 := two_len big (55296 + (p - 65536) / 1024)
        have hl3 := two_len big (56320 + (p - 65536) % 1024)
        go_wp2_with (go_at_call 61; refine (RTwo_any _ ⟨by omega, by omega⟩ big _).mono ?_; first | (have hx := hsz; clear hsz hx; rintro e w1 ⟨rfl, hb1⟩; have hb2 := hb.trans (hb1.mono hb.size)) | (rintro e w2 ⟨rfl, hb3⟩))
        go_roundw
        case rel => exact ⟨k + 1, by omega, by go_num, by rw [hnext.out, hez.out, ← List.append_assoc, ← mk_append, ← mk_append], hb2.trans (hb3.mono hb2.size)⟩
        case measure => simp [intOf]; omega
    · have hk2 : k = ps.length := by omega
      subst hk2
      rw [List.take_length]
      clear hnr hn hps
      go_wp2
      go_ret
      exact ⟨rfl, hb⟩
end Go.Proofs.YtblcknhkjkcmjaaDoor
