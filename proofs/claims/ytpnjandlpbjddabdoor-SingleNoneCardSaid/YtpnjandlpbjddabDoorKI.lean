/- SingleReads holds: any charset's number, any bytes; condition: the tables of unicode/utf8 are laid. -/
import Derived.Test.YtpnjandlpbjddabDoorKH
set_option maxRecDepth 100000
set_option maxHeartbeats 1000000
namespace Go.Proofs.YtpnjandlpbjddabDoor
open Go Go.RowKit

theorem awake5 (w : World) (hT : Tabs w) :
    Calls Tryd.prog 7 #[] w fun e w' => e = .returned (.bool true) ∧ Below w.heap.size w w' := by
  go_enter Tryd.func7, Tryd.ntmps7
  go_wp2_with (go_at_call 20; refine (Awake5 _ hT).mono ?_; rintro e w1 ⟨rfl, hb1⟩)
  go_ret
  exact ⟨rfl, hb1⟩
theorem SOf_some (c : Int) (w : World) (hT : Tabs w) : Calls Tryd.prog 6 #[.int .i64 c] w fun e w' => ∃ (A : Option Addr) (n cp : Nat) (z : Int) (ok : Bool), e = .returned (.tuple #[.agg #[.slice A n cp, .int .i64 z], .bool ok]) ∧ Below w.heap.size w w' := by
  by_cases hc : c < 0 ∨ 3 < c
  · exact (SOf_no c hc w).mono fun e w' ⟨h1, h2⟩ => ⟨none, 0, 0, 0, false, h1, h2⟩
  · obtain ⟨n, rfl⟩ := Int.eq_ofNat_of_zero_le (show 0 ≤ c by omega)
    exact (SOf_yes n (by omega) w hT).mono fun e w' ⟨A, cp, rs, h1, _, _, _, _, h2⟩ => ⟨A, rs.length, cp, _, true, h1, h2⟩
theorem str_eq (b : ByteArray) : (⟨b.data.toList.toArray⟩ : ByteArray) = b := by
  apply ByteArray.ext
  simp
theorem dec_good {c : Nat} (hc : c ≤ 3) (l : List UInt8) : Good (tB (l.map fun x => sgnL c x.toNat)) (l.map fun x => sgnL c x.toNat) :=
  good_text fun p hp => by
    obtain ⟨x, _, rfl⟩ := List.mem_map.1 hp
    exact sgn_sc hc x.toNat_lt
theorem dec_size (c : Nat) (l : List UInt8) : (tB (l.map fun x => sgnL c x.toNat)).size ≤ 4 * l.length := by
  have h := (len_textL (l.map fun x => sgnL c x.toNat)).2
  rw [List.length_map] at h
  exact h
end Go.Proofs.YtpnjandlpbjddabDoor
