/- Contract of wansung.otherCode; condition: the cell of the library's MaxLen holds some int. -/
import Derived.Test.YtpnjandlpbjddabDoorZ3
set_option maxRecDepth 100000
set_option maxHeartbeats 1000000
namespace Go.Proofs.YtpnjandlpbjddabDoor
open Go Go.RowKit

def ML (w : World) : Prop := ∃ m : Int, w.cell? ⟨0, 0, none⟩ = some (.int .i64 m)
theorem ML_below {w w' : World} {B : Nat} (h : ML w) (hb : Below B w w') (hB : w.heap.size ≤ B) : ML w' := by
  obtain ⟨m, hm⟩ := h
  exact ⟨m, (hb.cell (p := ⟨_, 0, none⟩) (Nat.lt_of_lt_of_le (World.block_lt_of_cell? _ _ hm) hB)).trans hm⟩
theorem WFind_any (l p : Int) (w : World) (hm : ML w) :
    Calls Tryd.prog 108 #[.string (wB l), .int .i32 p] w fun e w' => e = .returned (.int .i64 (findZ (listW l) p)) ∧ Below w.heap.size w w' := by
  obtain ⟨m, hm⟩ := hm
  obtain ⟨hx, hsz⟩ := hex_list l
  exact Find_any (wB l) (listW l) hx p hsz w m hm
theorem findZ_eq (l p : Int) : findZ (listW l) p = fnd (listW l) p := by
  unfold findZ
  split
  · rename_i h
    symm
    rw [fnd_none]
    intro hp
    have := pos_list l p hp
    omega
  · rfl
def listC (p : Int) : Nat → Int → Int
  | 0, _ => spanC SPN p
  | n + 1, l => if 0 ≤ fnd (listW l) p then l * 256 + 161 + fnd (listW l) p else listC p n (l + 1)
theorem codeW_eq (p : Int) : codeW p = listC p 6 161 := by
  have e : ∀ l : Int, l = 163 ∨ l = 164 ∨ l = 165 → ¬ 0 ≤ fnd (listW l) p := by
    rintro l (rfl | rfl | rfl) <;> simp [listW, fnd]
  unfold codeW
  simp only [listC]
  rw [if_neg (e (161 + 1 + 1) (.inl rfl)), if_neg (e (161 + 1 + 1 + 1) (.inr (.inl rfl))), if_neg (e (161 + 1 + 1 + 1 + 1) (.inr (.inr rfl)))]
  rfl
def OcRel (p : Int) (w0 : World) (l : Value) (wr : World) : Prop := ∃ k : Nat, k ≤ 6 ∧ l = .int .i64 (161 + (k : Int)) ∧ codeW p = listC p (6 - k) (161 + (k : Int)) ∧ Below w0.heap.size w0 wr
def OsRel (p : Int) (w0 : World) (bk : Nat) (i : Value) (wr : World) : Prop := ∃ k : Nat, k ≤ 19 ∧ i = .int .i64 k ∧ codeW p = spanC (SPN.drop k) p ∧ SpAt wr bk ∧ Below w0.heap.size w0 wr
def OcPost (p : Int) (w0 : World) (e : Ending) (w' : World) : Prop := e = .returned (.tuple #[.int .i64 (if 0 ≤ codeW p then codeW p else 0), .bool (decide (0 ≤ codeW p))]) ∧ Below w0.heap.size w0 w'
theorem OtherCode_any (p : Int) (hp : -2147483648 ≤ p ∧ p ≤ 2147483647) (w : World) (hm : ML w) :
    Calls Tryd.prog 86 #[.int .i32 p] w (OcPost p w) := by
  obtain ⟨p0, p1⟩ := hp
  generalize hP : OcPost p w = P at *
  go_enter Tryd.func86, Tryd.ntmps86
  go_wp2_with fail
  go_loopw [4] (fun l wr => OcRel p w l wr) (fun l _ => 167 - (intOf l).toNat)
  case atStart => exact ⟨0, by omega, rfl, codeW_eq p, Below.refl _ _⟩
  case round =>
    obtain ⟨k, hk, rfl, heq, hb⟩ := hrel
    by_cases hk6 : k < 6
    · have hli := fun w => Listed_any (161 + (k : Int)) (by omega) w
      have hfi := fun w => WFind_any (161 + (k : Int)) p w
      have hge := fnd_ge (listW (161 + (k : Int))) p
      have hlt := fnd_lt (listW (161 + (k : Int))) p
      have hll := len_list (161 + (k : Int))
      have hstep : listC p (6 - k) (161 + (k : Int)) = if 0 ≤ fnd (listW (161 + (k : Int))) p then (161 + (k : Int)) * 256 + 161 + fnd (listW (161 + (k : Int))) p else listC p (6 - (k + 1)) (161 + ((k + 1 : Nat) : Int)) := by
        rw [show 6 - k = 6 - (k + 1) + 1 by omega, show (161 : Int) + ((k + 1 : Nat) : Int) = 161 + (k : Int) + 1 by omega]
        rfl
      simp only [findZ_eq] at hfi
      have Hs := Lib.hid (heq.trans hstep)
      clear heq hstep
      generalize fnd (listW (161 + (k : Int))) p = f at *
      have hlen : f < 94 := by omega
      clear hlt hll
      by_cases hf : 0 ≤ f
      · have hval := Lib.hid (show codeW p = (161 + (k : Int)) * 256 + 161 + f by rw [Hs.out, if_pos hf])
        clear Hs
        go_wp2_with (first | (go_at_call 46; refine (hli _).mono ?_; rintro e w1 ⟨rfl, hb1⟩) | (go_at_call 108; refine (hfi _ (ML_below hm (hb.trans (hb1.mono hb.size)) (Nat.le_refl _))).mono ?_; rintro e w2 ⟨rfl, hb2⟩))
        show P (.returned (.tuple #[.int .i64 ((161 + (k : Int)) * 256 + 161 + f), .bool true])) w2
        rw [← hP]
        refine ⟨?_, (hb.trans (hb1.mono hb.size)).trans (hb2.mono (Nat.le_trans hb.size hb1.size))⟩
        show Ending.returned (.tuple #[.int .i64 ((161 + (k : Int)) * 256 + 161 + f), .bool true]) = _
        have h0 : 0 ≤ (161 + (k : Int)) * 256 + 161 + f := by omega
        rw [hval.out, if_pos h0, decide_eq_true h0]
      · have hval := Lib.hid (show codeW p = listC p (6 - (k + 1)) (161 + ((k + 1 : Nat) : Int)) by rw [Hs.out, if_neg hf])
        clear Hs
        go_wp2_with (first | (go_at_call 46; refine (hli _).mono ?_; rintro e w1 ⟨rfl, hb1⟩) | (go_at_call 108; refine (hfi _ (ML_below hm (hb.trans (hb1.mono hb.size)) (Nat.le_refl _))).mono ?_; rintro e w2 ⟨rfl, hb2⟩))
        go_roundw
        case rel => exact ⟨k + 1, by omega, by congr 1, hval.out, (hb.trans (hb1.mono hb.size)).trans (hb2.mono (Nat.le_trans hb.size hb1.size))⟩
        case measure => simp [intOf]; omega
    · have hk2 : k = 6 := by omega
      subst hk2
      have heq2 : codeW p = spanC SPN p := heq
      have Heq := Lib.hid heq2
      clear heq heq2 hk6 hk
      go_wp2_with (first | (go_at_call 48; refine (Spans_any _).mono ?_; rintro e w2 ⟨bk, rfl, hS, hb2⟩))
      have hB2 := hb.trans (hb2.mono hb.size)
      clear hb hb2
      go_loopw [29] (fun i wr => OsRel p w bk i wr) (fun i _ => 19 - (intOf i).toNat)
      case atStart => exact ⟨0, by omega, rfl, Heq.out, hS, hB2⟩
      case round =>
        obtain ⟨k, hk, rfl, heq, hSr, hbr⟩ := hrel
        by_cases hk19 : k < 19
        · have hstep := Lib.hid (code_step hk19 p)
          obtain ⟨c0, c1, c2⟩ := hSr k hk19
          have hbd := sp_bd hk19
          generalize spC k = C at *
          generalize spT k = T at *
          generalize spN k = M at *
          by_cases hC : T ≤ p
          · by_cases hM : p - T < M
            · have hval := Lib.hid (show codeW p = C + (p - T) by rw [heq, hstep.out, if_pos ⟨hC, hM⟩])
              clear heq hstep Heq
              go_wp2_with fail
              show P (.returned (.tuple #[.int .i64 (C + (p - T)), .bool true])) _
              rw [← hP]
              refine ⟨?_, hbr.alloc hbr.size _⟩
              have h0 : 0 ≤ C + (p - T) := by omega
              show Ending.returned (.tuple #[.int .i64 (C + (p - T)), .bool true]) = _
              rw [hval.out, if_pos h0, decide_eq_true h0]
            · have hd : decide (p - T < M) = false := by simpa using hM
              have hval := Lib.hid (show codeW p = spanC (SPN.drop (k + 1)) p by rw [heq, hstep.out, if_neg (fun h => hM h.2)])
              clear heq hstep Heq
              go_wp2_with fail
              go_roundw
              case rel => exact ⟨k + 1, by omega, by go_num, hval.out, SpAt.keep hSr ((Below.refl _ _).alloc (Nat.le_refl _) _) (Nat.le_refl _), hbr.alloc hbr.size _⟩
              case measure => simp [intOf]; omega
          · have hd : decide (T ≤ p) = false := by simpa using hC
            have hval := Lib.hid (show codeW p = spanC (SPN.drop (k + 1)) p by rw [heq, hstep.out, if_neg (fun h => hC h.1)])
            clear heq hstep Heq
            go_wp2_with fail
            go_roundw
            case rel => exact ⟨k + 1, by omega, by go_num, hval.out, SpAt.keep hSr ((Below.refl _ _).alloc (Nat.le_refl _) _) (Nat.le_refl _), hbr.alloc hbr.size _⟩
            case measure => simp [intOf]; omega
        · have hk2 : k = 19 := by omega
          subst hk2
          have hend := Lib.hid (show codeW p = -1 by rw [heq]; rfl)
          clear hk19 heq Heq
          go_wp2_with fail
          show P (.returned (.tuple #[.int .i64 0, .bool false])) _
          rw [← hP]
          refine ⟨?_, hbr⟩
          show Ending.returned (.tuple #[.int .i64 0, .bool false]) = _
          rw [hend.out]
          rfl
end Go.Proofs.YtpnjandlpbjddabDoor

/- Contracts of wansung.Place, Extra, number, second, row, Sign, for every pair of bytes; condition: the table of math/bits lies as laid. -/
set_option maxRecDepth 100000
set_option maxHeartbeats 1000000
namespace Go.Proofs.YtpnjandlpbjddabDoor
open Go Go.RowKit

def KthZ (k : Int) (b : Bool) (p : Int) : Prop := (k < 0 ∧ p = 0) ∨ (0 ≤ k ∧ KthIs k.toNat b p)
theorem kthZ_uniq {k : Int} {b : Bool} {p q : Int} (h1 : KthZ k b p) (h2 : KthZ k b q) : p = q := by
  rcases h1 with ⟨a, rfl⟩ | ⟨a, h1⟩ <;> rcases h2 with ⟨c, rfl⟩ | ⟨c, h2⟩
  · rfl
  · omega
  · omega
  · exact kth_uniq h1 h2
theorem kthZ_ne {k : Int} {b : Bool} {p : Int} (h : KthZ k b p) : p ≠ 0 ↔ (0 ≤ k ∧ k < (if b then 2350 else 8822)) := by
  rcases h with ⟨a, rfl⟩ | ⟨a, h⟩
  · constructor
    · intro h; exact absurd rfl h
    · intro h; omega
  · have := kth_ne h
    rw [cnt_total] at this
    cases b <;> simp only [Bool.false_eq_true, if_false, if_true] at this ⊢ <;> rw [this] <;> omega
def ChPostZ (k : Int) (b : Bool) (w0 : World) (e : Ending) (w' : World) : Prop := ∃ p, e = .returned (.tuple #[.int .i32 p, .bool (p != 0)]) ∧ KthZ k b p ∧ Below w0.heap.size w0 w'
theorem Choose_z (k : Int) (hk : k ≤ 9223372036854775807) (b : Bool) (w : World) (hD : DB w) :
    Calls Tryd.prog 105 #[.int .i64 k, .bool b] w (ChPostZ k b w) := by
  by_cases h0 : k < 0
  · exact (Choose_neg k h0 b w).mono fun e w' h => ⟨0, h.1, .inl ⟨h0, rfl⟩, h.2⟩
  · have := Choose_any k.toNat (by omega) b w hD
    rw [show ((k.toNat : Nat) : Int) = k by omega] at this
    exact this.mono fun e w' ⟨p, h1, h2, h3⟩ => ⟨p, h1, .inr ⟨by omega, h2⟩, h3⟩
theorem Place_any (k : Int) (hk : k ≤ 9223372036854775807) (w : World) (hD : DB w) :
    Calls Tryd.prog 103 #[.int .i64 k] w (ChPostZ k true w) := by
  have hc := fun w => Choose_z k hk true w
  go_enter Tryd.func103, Tryd.ntmps103
  go_wp2_with (first | (go_at_call 105; refine (hc _ hD).mono ?_; rintro e w1 ⟨p, rfl, hp, hb1⟩))
  go_ret2
  exact ⟨p, rfl, hp, hb1⟩
theorem Extra_any (k : Int) (hk : k ≤ 9223372036854775807) (w : World) (hD : DB w) :
    Calls Tryd.prog 83 #[.int .i64 k] w (ChPostZ k false w) := by
  have hc := fun w => Choose_z k hk false w
  go_enter Tryd.func83, Tryd.ntmps83
  go_wp2_with (first | (go_at_call 105; refine (hc _ hD).mono ?_; rintro e w1 ⟨p, rfl, hp, hb1⟩))
  go_ret2
  exact ⟨p, rfl, hp, hb1⟩

def secZ (b : Int) : Int := if 65 ≤ b ∧ b ≤ 90 then b - 65 else if 97 ≤ b ∧ b ≤ 122 then b - 97 + 26 else if 129 ≤ b ∧ b ≤ 254 then b - 129 + 52 else -1
def backZ (n : Int) : Int := if n < 26 then 65 + n else if n < 52 then 97 + n - 26 else 129 + n - 52
theorem Number_any (b : Int) (hb : -1000 ≤ b ∧ b ≤ 1000) (w : World) :
    Calls Tryd.prog 81 #[.int .i64 b] w fun e w' => e = .returned (.int .i64 (secZ b)) ∧ Below w.heap.size w w' := by
  have h0 := hb.1
  have h1 := hb.2
  go_enter Tryd.func81, Tryd.ntmps81
  go_wp2
  all_goals go_ret
  all_goals refine ⟨ret_int ?_, Below.refl _ _⟩
  all_goals unfold secZ
  all_goals repeat' split
  all_goals omega
theorem Back_any (n : Int) (hn : 0 ≤ n ∧ n ≤ 1000) (w : World) :
    Calls Tryd.prog 85 #[.int .i64 n] w fun e w' => e = .returned (.int .i64 (backZ n)) ∧ Below w.heap.size w w' := by
  have h0 := hn.1
  have h1 := hn.2
  go_enter Tryd.func85, Tryd.ntmps85
  go_wp2
  all_goals go_ret
  all_goals refine ⟨ret_int ?_, Below.refl _ _⟩
  all_goals unfold backZ
  all_goals repeat' split
  all_goals omega
theorem secZ_bd (b : Int) : -1 ≤ secZ b ∧ secZ b ≤ 177 := by
  unfold secZ
  repeat' split
  all_goals omega
theorem back_sec {b : Int} (h : 0 ≤ secZ b) : backZ (secZ b) = b := by
  unfold secZ at h ⊢
  unfold backZ
  repeat' split at h
  all_goals (repeat' split)
  all_goals omega
theorem sec_back {n : Int} (h : 0 ≤ n ∧ n < 178) : secZ (backZ n) = n ∧ 65 ≤ backZ n ∧ backZ n ≤ 254 ∧ (n < 84 → backZ n < 161) := by
  unfold secZ backZ
  repeat' split
  all_goals omega

/-- What the two bytes in the rows stand for. -/
def RowIs (lead b p : Int) : Prop := if b = 255 then p = 0 else if 176 ≤ lead ∧ lead ≤ 200 then KthZ ((lead - 176) * 94 + b - 161) true p else p = otherZ lead b
def RowPost (lead b : Int) (w0 : World) (e : Ending) (w' : World) : Prop := ∃ p, e = .returned (.tuple #[.int .i32 p, .bool (p != 0)]) ∧ RowIs lead b p ∧ Below w0.heap.size w0 w'
theorem ne_decide' (p : Int) : (!decide (p = 0)) = (p != 0) := by
  by_cases h : p = 0 <;> simp [h]
theorem WRow_any (lead b : Int) (hl : 161 ≤ lead ∧ lead ≤ 254) (hb : 161 ≤ b ∧ b ≤ 255) (w : World) (hD : DB w) :
    Calls Tryd.prog 82 #[.int .i64 (lead - 161), .int .i64 (b - 161)] w (RowPost lead b w) := by
  generalize hP : RowPost lead b w = P at *
  by_cases h255 : b = 255
  · have hd : decide ((94 : Int) ≤ b - 161) = true := by simp; omega
    go_enter Tryd.func82, Tryd.ntmps82
    go_wp2_with fail
    show P (.returned (.tuple #[.int .i32 0, .bool false])) w
    rw [← hP]
    exact ⟨0, rfl, by unfold RowIs; rw [if_pos h255], Below.refl _ _⟩
  · have hd : decide ((94 : Int) ≤ b - 161) = false := by simp; omega
    have hR : ∀ p, RowIs lead b p ↔ (if 176 ≤ lead ∧ lead ≤ 200 then KthZ ((lead - 176) * 94 + b - 161) true p else p = otherZ lead b) := fun p => by unfold RowIs; rw [if_neg h255]
    have hpl := fun w => Place_any ((lead - 161) * 94 + (b - 161) - 1410) (by omega) w
    have hot := fun w => Other_any lead b (by omega) (by omega) w
    have he : (lead - 161) * 94 + (b - 161) - 1410 = (lead - 176) * 94 + b - 161 := by omega
    have hor : bits .or .i64 ((lead - 161 + 161) * 256) (b - 161 + 161) = lead * 256 + b := by
      rw [show lead - 161 + 161 = lead by omega, show b - 161 + 161 = b by omega]
      exact i64_or8 (by omega) (by omega) (by omega) (by omega)
    have He := Lib.hid he
    have HR := Lib.hid hR
    clear hR he
    generalize hf : lead - 161 = f at *
    generalize hs : b - 161 = s at *
    have Hf := Lib.hid hf
    have Hs := Lib.hid hs
    have f0 : 0 ≤ f ∧ f ≤ 93 := by omega
    have s0 : 0 ≤ s ∧ s ≤ 93 := by omega
    clear hf hs
    go_enter Tryd.func82, Tryd.ntmps82
    go_wp2_with (first | (go_at_call 103; refine (hpl _ hD).mono ?_; rintro e w1 ⟨p, rfl, hp, hb1⟩) | (go_at_call 104; refine (hot _).mono ?_; rintro e w2 ⟨rfl, hb2⟩))
    · rename_i hne
      have hne2 : p ≠ 0 := by simpa using hne
      have hk := (kthZ_ne hp).1 hne2
      simp only [if_true] at hk
      have hrng : 176 ≤ lead ∧ lead ≤ 200 := by have := Hf.out; have := Hs.out; omega
      show P (.returned (.tuple #[.int .i32 p, .bool true])) w1
      rw [← hP]
      exact ⟨p, by rw [hne], (HR.out p).2 (by rw [if_pos hrng, ← He.out]; exact hp), hb1⟩
    · rename_i hne
      have hne2 : ¬ (p ≠ 0) := by simpa using hne
      have hk := fun h => hne2 ((kthZ_ne hp).2 h)
      simp only [if_true] at hk
      have hrng : ¬ (176 ≤ lead ∧ lead ≤ 200) := by
        intro h
        have := Hf.out; have := Hs.out
        exact hk (by omega)
      show P (.returned (.tuple #[.int .i32 (otherZ lead b), .bool (!decide (otherZ lead b = 0))])) w2
      rw [← hP]
      exact ⟨otherZ lead b, by rw [ne_decide'], (HR.out _).2 (by rw [if_neg hrng]), hb1.trans (hb2.mono hb1.size)⟩
/-- What two bytes stand for. -/
def SignIs (lead b p : Int) : Prop := if secZ b < 0 ∨ lead < 129 ∨ 254 < lead then p = 0 else if lead < 161 then KthZ ((lead - 129) * 178 + secZ b) false p else if b < 161 then KthZ (5696 + (lead - 161) * 84 + secZ b) false p else RowIs lead b p
def SgPost (lead b : Int) (w0 : World) (e : Ending) (w' : World) : Prop := ∃ p, e = .returned (.tuple #[.int .i32 p, .bool (p != 0)]) ∧ SignIs lead b p ∧ Below w0.heap.size w0 w'
theorem Sign_any (lead b : Int) (hl : 0 ≤ lead ∧ lead ≤ 255) (hb : 0 ≤ b ∧ b ≤ 255) (w : World) (hD : DB w) :
    Calls Tryd.prog 53 #[.int .u8 lead, .int .u8 b] w (SgPost lead b w) := by
  generalize hP : SgPost lead b w = P at *
  have hnum := fun w => Number_any b (by omega) w
  have hsb := secZ_bd b
  obtain ⟨l0, l1⟩ := hl
  obtain ⟨b0, b1⟩ := hb
  by_cases hA : lead < 129 ∨ 254 < lead
  · have hr : SignIs lead b 0 := by unfold SignIs; rw [if_pos (by omega)]
    have Hr := Lib.hid hr
    clear hr
    generalize secZ b = n at *
    rcases hA with h | h
    · go_enter Tryd.func53, Tryd.ntmps53
      go_wp2_with (first | (go_at_call 81; refine (hnum _).mono ?_; rintro e w1 ⟨rfl, hb1⟩))
      show P (.returned (.tuple #[.int .i32 0, .bool false])) _
      rw [← hP]
      exact ⟨0, rfl, Hr.out, hb1⟩
    · have h2 : ¬ lead < 129 := by omega
      go_enter Tryd.func53, Tryd.ntmps53
      go_wp2_with (first | (go_at_call 81; refine (hnum _).mono ?_; rintro e w1 ⟨rfl, hb1⟩))
      show P (.returned (.tuple #[.int .i32 0, .bool false])) _
      rw [← hP]
      exact ⟨0, rfl, Hr.out, hb1⟩
  have hA1 : ¬ lead < 129 := by omega
  have hA2 : ¬ 254 < lead := by omega
  by_cases hB : 161 ≤ lead ∧ 161 ≤ b
  · obtain ⟨h1, h2⟩ := hB
    have hro := fun w => WRow_any lead b (by omega) (by omega) w
    have hr : ∀ p, RowIs lead b p → SignIs lead b p := by
      intro p hp
      unfold SignIs
      by_cases h255 : b = 255
      · unfold RowIs at hp
        rw [if_pos h255] at hp
        rw [if_pos (by left; subst h255; decide)]
        exact hp
      · rw [if_neg, if_neg (by omega), if_neg (by omega)]
        · exact hp
        · have : 0 ≤ secZ b := by
            unfold secZ
            rw [if_neg (by omega), if_neg (by omega), if_pos (by omega)]
            omega
          omega
    have Hr := Lib.hid hr
    clear hr
    generalize secZ b = n at *
    have hge : 0 ≤ lead - 161 := by omega
    go_enter Tryd.func53, Tryd.ntmps53
    go_wp2_with (first | (go_at_call 81; refine (hnum _).mono ?_; rintro e w1 ⟨rfl, hb1⟩) | (go_at_call 82; refine (hro _ (DB_below hD hb1 (Nat.le_refl _))).mono ?_; rintro e w2 ⟨p, rfl, hp, hb2⟩))
    show P (.returned (.tuple #[.int .i32 p, .bool (p != 0)])) _
    rw [← hP]
    exact ⟨p, rfl, Hr.out p hp, hb1.trans (hb2.mono hb1.size)⟩
  by_cases hC : secZ b < 0
  · have hr : SignIs lead b 0 := by unfold SignIs; rw [if_pos (by omega)]
    have Hr := Lib.hid hr
    clear hr
    generalize secZ b = n at *
    by_cases h1 : 161 ≤ lead
    · have hge : decide (0 ≤ lead - 161) = true := by simp; omega
      have h2 : ¬ 161 ≤ b := by omega
      go_enter Tryd.func53, Tryd.ntmps53
      go_wp2_with (first | (go_at_call 81; refine (hnum _).mono ?_; rintro e w1 ⟨rfl, hb1⟩))
      show P (.returned (.tuple #[.int .i32 0, .bool false])) _
      rw [← hP]
      exact ⟨0, rfl, Hr.out, hb1⟩
    · have hge : decide (0 ≤ lead - 161) = false := by simp; omega
      go_enter Tryd.func53, Tryd.ntmps53
      go_wp2_with (first | (go_at_call 81; refine (hnum _).mono ?_; rintro e w1 ⟨rfl, hb1⟩))
      show P (.returned (.tuple #[.int .i32 0, .bool false])) _
      rw [← hP]
      exact ⟨0, rfl, Hr.out, hb1⟩
  by_cases hE : lead < 161
  · have hr : ∀ p, KthZ ((lead - 129) * 178 + secZ b) false p → SignIs lead b p := by
      intro p hp
      unfold SignIs
      rw [if_neg (by omega), if_pos hE]
      exact hp
    have hex := fun w => Extra_any ((lead - 129) * 178 + secZ b) (by omega) w
    have Hr := Lib.hid hr
    clear hr
    generalize secZ b = n at *
    have hge : decide (0 ≤ lead - 161) = false := by simp; omega
    have hge2 : decide (lead - 161 < 0) = true := by simp; omega
    go_enter Tryd.func53, Tryd.ntmps53
    go_wp2_with (first | (go_at_call 81; refine (hnum _).mono ?_; rintro e w1 ⟨rfl, hb1⟩) | (go_at_call 83; refine (hex _ (DB_below hD hb1 (Nat.le_refl _))).mono ?_; rintro e w2 ⟨p, rfl, hp, hb2⟩))
    show P (.returned (.tuple #[.int .i32 p, .bool (p != 0)])) _
    rw [← hP]
    exact ⟨p, rfl, Hr.out p hp, hb1.trans (hb2.mono hb1.size)⟩
  · have hr : ∀ p, KthZ (5696 + (lead - 161) * 84 + secZ b) false p → SignIs lead b p := by
      intro p hp
      unfold SignIs
      rw [if_neg (by omega), if_neg hE, if_pos (by omega)]
      exact hp
    have hex := fun w => Extra_any (5696 + (lead - 161) * 84 + secZ b) (by omega) w
    have Hr := Lib.hid hr
    clear hr
    generalize secZ b = n at *
    have hge : decide (0 ≤ lead - 161) = true := by simp; omega
    have hge2 : decide (lead - 161 < 0) = false := by simp; omega
    have h2 : ¬ 161 ≤ b := by omega
    go_enter Tryd.func53, Tryd.ntmps53
    go_wp2_with (first | (go_at_call 81; refine (hnum _).mono ?_; rintro e w1 ⟨rfl, hb1⟩) | (go_at_call 83; refine (hex _ (DB_below hD hb1 (Nat.le_refl _))).mono ?_; rintro e w2 ⟨p, rfl, hp, hb2⟩))
    show P (.returned (.tuple #[.int .i32 p, .bool (p != 0)])) _
    rw [← hP]
    exact ⟨p, rfl, Hr.out p hp, hb1.trans (hb2.mono hb1.size)⟩
end Go.Proofs.YtpnjandlpbjddabDoor

/- Contract of wansung.Bytes, for every number; condition: the cell of the library's MaxLen holds some int. -/
set_option maxRecDepth 100000
set_option maxHeartbeats 1000000
namespace Go.Proofs.YtpnjandlpbjddabDoor
open Go Go.RowKit

def inC (k : Int) : Int := (161 + (k + 1410) / 94) * 256 + (161 + (k + 1410) % 94)
def exC (k : Int) : Int := if k < 5696 then (129 + k / 178) * 256 + backZ (k % 178) else (161 + (k - 5696) / 84) * 256 + backZ ((k - 5696) % 84)
/-- The code of a sign; -1: it has none. -/
def codeP (p : Int) : Int := if 44032 ≤ p ∧ p ≤ 55203 then (if isIn (p - 44032).toNat then inC (cnt true (p - 44032).toNat) else exC (cnt false (p - 44032).toNat)) else codeW p
def bytesP (c : Int) : ByteArray := if c < 0 then ⟨#[]⟩ else ⟨#[(c / 256).toNat.toUInt8, (c % 256).toNat.toUInt8]⟩
def BPost (p : Int) (w0 : World) (e : Ending) (w' : World) : Prop := e = .returned (.tuple #[.string (bytesP (codeP p)), .bool (decide (0 ≤ codeP p))]) ∧ Below w0.heap.size w0 w'
theorem backZ_bd {n : Int} (h : 0 ≤ n ∧ n < 178) : 65 ≤ backZ n ∧ backZ n ≤ 254 := ⟨(sec_back h).2.1, (sec_back h).2.2.1⟩
theorem BPost_ok {p c : Int} {w w' : World} (hc : codeP p = c) (h0 : 0 ≤ c) (hb : Below w.heap.size w w') : BPost p w (.returned (.tuple #[.string ⟨#[(c / 256).toNat.toUInt8, (c % 256).toNat.toUInt8]⟩, .bool true])) w' := by
  refine ⟨?_, hb⟩
  rw [hc, decide_eq_true h0]
  unfold bytesP
  rw [if_neg (by omega)]
theorem code_in {n : Nat} (hn : n < 11172) (h : isIn n = true) : codeP (44032 + n) = inC (cnt true n) := by
  unfold codeP
  rw [if_pos (by omega), show ((44032 : Int) + n - 44032).toNat = n by omega, h]
  rfl
theorem code_ex {n : Nat} (hn : n < 11172) (h : isIn n = false) : codeP (44032 + n) = exC (cnt false n) := by
  unfold codeP
  rw [if_pos (by omega), show ((44032 : Int) + n - 44032).toNat = n by omega, h]
  rfl
theorem codeW_bd (p : Int) : codeW p ≤ 44287 := by
  have h1 := fnd_lt LA1 p
  have h2 := fnd_lt LA2 p
  have h6 := fnd_lt LA6 p
  obtain ⟨a, b, c⟩ := len_chk
  have hs : ∀ k, k ≤ 19 → spanC (SPN.drop (19 - k)) p ≤ 44287 := by
    intro k
    induction k with
    | zero => intro _; show spanC [] p ≤ _; simp [spanC]
    | succ k ih =>
      intro hk
      have ih := ih (by omega)
      rw [code_step (by omega : 19 - (k + 1) < 19) p, show 19 - (k + 1) + 1 = 19 - k by omega]
      split
      · have := List.all_eq_true.1 spn_chk (spC (19 - (k + 1)), spT (19 - (k + 1)), spN (19 - (k + 1))) (by
          have hl : 19 - (k + 1) < SPN.length := by simp [SPN]; omega
          have : SPN[19 - (k + 1)] = (spC (19 - (k + 1)), spT (19 - (k + 1)), spN (19 - (k + 1))) := by
            simp only [spC, spT, spN, List.getD_eq_getElem?_getD, List.getElem?_eq_getElem hl, Option.getD_some]
          rw [← this]
          exact List.getElem_mem hl)
        simp only [Bool.and_eq_true, decide_eq_true_eq] at this
        omega
      · exact ih
  have := hs 19 (by omega)
  rw [show SPN.drop (19 - 19) = SPN from rfl] at this
  unfold codeW
  repeat' split
  all_goals omega
theorem Bytes_in (n : Nat) (hn : n < 11172) (hi : isIn n = true) (w : World) :
    Calls Tryd.prog 54 #[.int .i32 (44032 + (n : Int))] w (BPost (44032 + n) w) := by
  generalize hP : BPost (44032 + n) w = P at *
  have hr := fun w => Rank_in n hn w
  rw [hi] at hr
  have hk := cnt_lt hn hi
  rw [cnt_in] at hk
  have hcode := code_in hn hi
  unfold inC at hcode
  have Hc := Lib.hid hcode
  clear hcode
  generalize cnt true n = k at *
  have hor : bits .or .i64 ((161 + ((k : Int) + 1410) / 94) * 256) (161 + ((k : Int) + 1410) % 94) = (161 + ((k : Int) + 1410) / 94) * 256 + (161 + ((k : Int) + 1410) % 94) := i64_or8 (by omega) (by omega) (by omega) (by omega)
  have hbd : 0 ≤ (161 + ((k : Int) + 1410) / 94) * 256 + (161 + ((k : Int) + 1410) % 94) ∧ (161 + ((k : Int) + 1410) / 94) * 256 + (161 + ((k : Int) + 1410) % 94) ≤ 65535 := by omega
  have hbig := fun w => Big2 ((161 + ((k : Int) + 1410) / 94) * 256 + (161 + ((k : Int) + 1410) % 94)) hbd.1 hbd.2 w
  obtain ⟨c, hc⟩ : ∃ c, c = (161 + ((k : Int) + 1410) / 94) * 256 + (161 + ((k : Int) + 1410) % 94) := ⟨_, rfl⟩
  rw [← hc] at hor hbd hbig Hc
  have hd := hbd.1
  have hd2 := hbd.2
  clear hc hbd
  go_enter Tryd.func54, Tryd.ntmps54
  go_wp2_with (first | (go_at_call 84; refine (hr _).mono ?_; rintro e w1 ⟨rfl, hb1⟩) | (go_at_call 87; refine (hbig _).mono ?_; rintro e w2 ⟨rfl, hb2⟩))
  show P (.returned (.tuple #[.string ⟨#[(c / 256).toNat.toUInt8, (c % 256).toNat.toUInt8]⟩, .bool true])) _
  rw [← hP]
  exact BPost_ok Hc.out hd (hb1.trans (hb2.mono hb1.size))
theorem Bytes_ex (n : Nat) (hn : n < 11172) (hi : isIn n = false) (w : World) :
    Calls Tryd.prog 54 #[.int .i32 (44032 + (n : Int))] w (BPost (44032 + n) w) := by
  generalize hP : BPost (44032 + n) w = P at *
  have hr := fun w => Rank_in n hn w
  rw [hi] at hr
  have hk := cnt_lt hn hi
  rw [cnt_out] at hk
  have hcode := code_ex hn hi
  unfold exC at hcode
  generalize cnt false n = k at *
  by_cases h5 : (k : Int) < 5696
  · rw [if_pos h5] at hcode
    have Hc := Lib.hid hcode
    clear hcode
    have hbk := fun w => Back_any ((k : Int) % 178) (by omega) w
    have hbb := backZ_bd (n := (k : Int) % 178) (by omega)
    generalize backZ ((k : Int) % 178) = s at *
    have hor : bits .or .i64 ((129 + (k : Int) / 178) * 256) s = (129 + (k : Int) / 178) * 256 + s := i64_or8 (by omega) (by omega) (by omega) (by omega)
    have hbd : 0 ≤ (129 + (k : Int) / 178) * 256 + s ∧ (129 + (k : Int) / 178) * 256 + s ≤ 65535 := by omega
    have hbig := fun w => Big2 ((129 + (k : Int) / 178) * 256 + s) hbd.1 hbd.2 w
    obtain ⟨c, hc⟩ : ∃ c, c = (129 + (k : Int) / 178) * 256 + s := ⟨_, rfl⟩
    rw [← hc] at hor hbd hbig Hc
    have hd := hbd.1
    have hd2 := hbd.2
    clear hc hbd
    go_enter Tryd.func54, Tryd.ntmps54
    go_wp2_with (first | (go_at_call 84; refine (hr _).mono ?_; rintro e w1 ⟨rfl, hb1⟩) | (go_at_call 85; refine (hbk _).mono ?_; rintro e w3 ⟨rfl, hb3⟩) | (go_at_call 87; refine (hbig _).mono ?_; rintro e w2 ⟨rfl, hb2⟩))
    show P (.returned (.tuple #[.string ⟨#[(c / 256).toNat.toUInt8, (c % 256).toNat.toUInt8]⟩, .bool true])) _
    rw [← hP]
    exact BPost_ok Hc.out hd ((hb1.trans (hb3.mono hb1.size)).trans (hb2.mono (Nat.le_trans hb1.size hb3.size)))
  · rw [if_neg h5] at hcode
    have Hc := Lib.hid hcode
    clear hcode
    have hbk := fun w => Back_any (((k : Int) - 5696) % 84) (by omega) w
    have hbb := backZ_bd (n := ((k : Int) - 5696) % 84) (by omega)
    generalize backZ (((k : Int) - 5696) % 84) = s at *
    have hor : bits .or .i64 ((161 + ((k : Int) - 5696) / 84) * 256) s = (161 + ((k : Int) - 5696) / 84) * 256 + s := i64_or8 (by omega) (by omega) (by omega) (by omega)
    have hbd : 0 ≤ (161 + ((k : Int) - 5696) / 84) * 256 + s ∧ (161 + ((k : Int) - 5696) / 84) * 256 + s ≤ 65535 := by omega
    have hbig := fun w => Big2 ((161 + ((k : Int) - 5696) / 84) * 256 + s) hbd.1 hbd.2 w
    obtain ⟨c, hc⟩ : ∃ c, c = (161 + ((k : Int) - 5696) / 84) * 256 + s := ⟨_, rfl⟩
    rw [← hc] at hor hbd hbig Hc
    have hd := hbd.1
    have hd2 := hbd.2
    clear hc hbd
    go_enter Tryd.func54, Tryd.ntmps54
    go_wp2_with (first | (go_at_call 84; refine (hr _).mono ?_; rintro e w1 ⟨rfl, hb1⟩) | (go_at_call 85; refine (hbk _).mono ?_; rintro e w3 ⟨rfl, hb3⟩) | (go_at_call 87; refine (hbig _).mono ?_; rintro e w2 ⟨rfl, hb2⟩))
    show P (.returned (.tuple #[.string ⟨#[(c / 256).toNat.toUInt8, (c % 256).toNat.toUInt8]⟩, .bool true])) _
    rw [← hP]
    exact BPost_ok Hc.out hd ((hb1.trans (hb3.mono hb1.size)).trans (hb2.mono (Nat.le_trans hb1.size hb3.size)))
theorem Bytes_other (p : Int) (hp : p < 44032 ∨ 55203 < p) (hrng : -2147483648 ≤ p ∧ p ≤ 2147483647) (w : World) (hm : ML w) :
    Calls Tryd.prog 54 #[.int .i32 p] w (BPost p w) := by
  have hP0 : BPost p w = fun e w' => e = .returned (.tuple #[.string (bytesP (codeW p)), .bool (decide (0 ≤ codeW p))]) ∧ Below w.heap.size w w' := by
    unfold BPost codeP
    rw [if_neg (by omega)]
  rw [hP0]
  clear hP0
  generalize hP : (fun e w' => e = Ending.returned (.tuple #[.string (bytesP (codeW p)), .bool (decide (0 ≤ codeW p))]) ∧ Below w.heap.size w w') = P at *
  have hr := fun w => Rank_out p hp w
  have hoc := fun w => OtherCode_any p hrng w
  unfold OcPost at hoc
  have hbd := codeW_bd p
  generalize codeW p = c at *
  by_cases h0 : 0 ≤ c
  · have hbig := fun w => Big2 c h0 (by omega) w
    simp only [if_pos h0, decide_eq_true h0] at hoc
    go_enter Tryd.func54, Tryd.ntmps54
    go_wp2_with (first | (go_at_call 84; refine (hr _).mono ?_; rintro e w1 ⟨rfl, hb1⟩) | (go_at_call 86; refine (hoc _ (ML_below hm hb1 (Nat.le_refl _))).mono ?_; rintro e w3 ⟨rfl, hb3⟩) | (go_at_call 87; refine (hbig _).mono ?_; rintro e w2 ⟨rfl, hb2⟩))
    show P (.returned (.tuple #[.string ⟨#[(c / 256).toNat.toUInt8, (c % 256).toNat.toUInt8]⟩, .bool true])) _
    rw [← hP]
    refine ⟨?_, (hb1.trans (hb3.mono hb1.size)).trans (hb2.mono (Nat.le_trans hb1.size hb3.size))⟩
    unfold bytesP
    rw [if_neg (by omega), decide_eq_true h0]
  · have h2 : decide (0 ≤ c) = false := by simp; omega
    have h3 : (if 0 ≤ c then c else 0) = 0 := if_neg (by omega)
    simp only [h2, h3] at hoc
    go_enter Tryd.func54, Tryd.ntmps54
    go_wp2_with (first | (go_at_call 84; refine (hr _).mono ?_; rintro e w1 ⟨rfl, hb1⟩) | (go_at_call 86; refine (hoc _ (ML_below hm hb1 (Nat.le_refl _))).mono ?_; rintro e w3 ⟨rfl, hb3⟩))
    show P (.returned (.tuple #[.string ⟨#[]⟩, .bool false])) _
    rw [← hP]
    refine ⟨?_, hb1.trans (hb3.mono hb1.size)⟩
    unfold bytesP
    rw [if_pos (by omega), h2]
theorem Bytes_any (p : Int) (hr : -2147483648 ≤ p ∧ p ≤ 2147483647) (w : World) (hm : ML w) :
    Calls Tryd.prog 54 #[.int .i32 p] w (BPost p w) := by
  by_cases hp : 44032 ≤ p ∧ p ≤ 55203
  · obtain ⟨n, rfl⟩ : ∃ n : Nat, p = 44032 + n := ⟨(p - 44032).toNat, by omega⟩
    cases hi : isIn n
    · exact Bytes_ex n (by omega) hi w
    · exact Bytes_in n (by omega) hi w
  · exact Bytes_other p (by omega) hr w hm
end Go.Proofs.YtpnjandlpbjddabDoor

/- The document's answer for chapter 07: Second, span, the n-th sign, the rows, the sign of two bytes, the code of a sign; no condition but small numbers. -/
set_option maxRecDepth 100000
set_option maxHeartbeats 1000000
namespace Go.Proofs.YtpnjandlpbjddabDoor
open Go Go.RowKit

theorem RSpan_any (b fr la p : Int) (hb : 0 ≤ b ∧ b ≤ 255) (hf : 0 ≤ fr ∧ fr ≤ 255) (hp : 0 ≤ p ∧ p ≤ 65535) (w : World) :
    Calls Tryd.prog 31 #[.int .i64 b, .int .i64 fr, .int .i64 la, .int .i32 p] w fun e w' => e = .returned (.int .i32 (spanR b fr la p)) ∧ w = w' := by
  obtain ⟨b0, b1⟩ := hb
  obtain ⟨f0, f1⟩ := hf
  obtain ⟨p0, p1⟩ := hp
  by_cases h1 : b < fr
  · have e : spanR b fr la p = 0 := if_pos (.inl h1)
    rw [e]
    go_enter Tryd.func31, Tryd.ntmps31
    go_wp2_with fail
    go_ret
    exact ⟨rfl, rfl⟩
  · by_cases h2 : la < b
    · have e : spanR b fr la p = 0 := if_pos (.inr h2)
      rw [e]
      go_enter Tryd.func31, Tryd.ntmps31
      go_wp2_with fail
      go_ret
      exact ⟨rfl, rfl⟩
    · have e : spanR b fr la p = p + (b - fr) := if_neg (by omega)
      have d1 : decide (b < fr) = false := by simpa using h1
      have d2 : decide (la < b) = false := by simpa using h2
      rw [e]
      go_enter Tryd.func31, Tryd.ntmps31
      go_wp2_with fail
      go_ret
      exact ⟨rfl, rfl⟩
def RNthRel (ps : List Int) (n : Nat) (w0 : World) (nv i : Value) (wr : World) : Prop := ∃ k j : Nat, Run ps k j ∧ i = .int .i64 j ∧ nv = .int .i64 ((n - k : Nat) : Int) ∧ k ≤ n ∧ Below w0.heap.size w0 wr
theorem RNth_any (s : ByteArray) (ps : List Int) (hg : Good s ps) (hs : s.size ≤ 1000000) (n : Nat) (hn : n < ps.length) (hn2 : n ≤ 1000) (w : World) :
    Calls Tryd.prog 30 #[.string s, .int .i64 n] w fun e w' => e = .returned (.int .i32 (ps.getD n 0)) ∧ Below w.heap.size w w' := by
  go_enter Tryd.func30, Tryd.ntmps30
  go_wp2_with fail
  go_loopw [1, 5] (fun nv i wr => RNthRel ps n w nv i wr) (fun nv _ _ => (intOf nv).toNat)
  case atStart => exact ⟨0, 0, Run.zero _, rfl, rfl, by omega, Below.refl _ _⟩
  case round =>
    obtain ⟨k, j, hrun, rfl, rfl, hkn, hb⟩ := hrel
    have hle := hrun.le hg.pre
    have hsz := hb.size
    obtain ⟨p, m, hst, hrun', hn1, hn4, hin, _, _, _⟩ := hrun.step hg.pre (by omega)
    have hgp : ps.getD k 0 = p := by
      have h1 := hst.snoc (by omega)
      rw [take_getD (by omega)] at h1
      simpa using h1
    by_cases he : k = n
    · subst he
      have hval := Lib.hid hgp
      clear hgp
      rw [Nat.sub_self]
      go_wp2_with (first | (go_at_call 52; refine (RAt_step hst (by omega) (by omega) _).mono ?_; rintro e w1 ⟨rfl, hb1⟩))
      go_ret
      rw [hval.out]
      exact ⟨rfl, hb.trans (hb1.mono hsz)⟩
    · clear hgp
      generalize hq : n - k = q at *
      have hq0 : 0 < q ∧ q ≤ 1000 := by omega
      obtain ⟨q0, q1⟩ := hq0
      have hz1 : ((q : Int) == 0) = false := beq_eq_false_iff_ne.2 (by omega)
      have hz2 : ((m : Int) == 0) = false := beq_eq_false_iff_ne.2 (by omega)
      have Hq := Lib.hid hq
      clear hq
      go_wp2_with (first | (go_at_call 52; refine (RAt_step hst (by omega) (by omega) _).mono ?_; rintro e w1 ⟨rfl, hb1⟩))
      go_roundw
      case rel => exact ⟨k + 1, j + m, hrun', by go_num, by have := Hq.out; rw [show ((n - (k + 1) : Nat) : Int) = (q : Int) - 1 by omega], by omega, hb.trans (hb1.mono hsz)⟩
      case measure => simp [intOf]; omega
def rtB (l : Int) : ByteArray := ⟨(textL (listW l)).toArray⟩
theorem litT (l : Int) (d : Array UInt8) (h : eqB d.toList (textL (listW l)) = true) : ByteArray.mk d = rtB l := by
  have := eqB_eq _ _ h
  unfold rtB
  rw [← this]
theorem scal_chk : [161, 162, 166].all (fun l : Int => (listW l).all scalarB) = true := by decide +kernel
theorem rtB_good (l : Int) (hl : l = 161 ∨ l = 162 ∨ l = 166) : Good (rtB l) (listW l) := good_text fun p hp => List.all_eq_true.1 (List.all_eq_true.1 scal_chk l (by simp; omega)) p hp
theorem rtB_size (l : Int) (hl : l = 161 ∨ l = 162 ∨ l = 166) : (rtB l).size ≤ 1000 := by
  have h := (len_textL (listW l)).2
  have h2 := len_list l
  rw [(rtB_good l hl).size]; omega
end Go.Proofs.YtpnjandlpbjddabDoor

/- The document's Row for chapter 07, for every two bytes of the rows. -/
set_option maxRecDepth 100000
set_option maxHeartbeats 1000000
namespace Go.Proofs.YtpnjandlpbjddabDoor
open Go Go.RowKit

theorem spanR_bd (b fr la p : Int) (hb : 0 ≤ b ∧ b ≤ 255) (hf : 0 ≤ fr ∧ fr ≤ 255) (hp : 0 ≤ p ∧ p ≤ 20000) : 0 ≤ spanR b fr la p ∧ spanR b fr la p ≤ 30000 := by
  unfold spanR
  split <;> omega
theorem Row161 (b : Int) (hb : 161 ≤ b ∧ b ≤ 254) (w : World) :
    Calls Tryd.prog 13 #[.int .i64 161, .int .i64 b] w fun e w' => e = .returned (.int .i32 ((listW 161).getD (b - 161).toNat 0)) ∧ Below w.heap.size w w' := by
  have hn := fun w => RNth_any (rtB 161) (listW 161) (rtB_good 161 (by omega)) (by have := rtB_size 161 (by omega); omega) (b - 161).toNat (by have := len_chk; show _ < LA1.length; omega) (by omega) w
  rw [show (((b - 161).toNat : Nat) : Int) = b - 161 by omega] at hn
  generalize (listW 161).getD (b - 161).toNat 0 = v at *
  refine calls_of_wp Tryd.func13 rfl ?_
  rw [litT 161]
  rotate_left
  kernel_rfl
  rw [litT 162]
  rotate_left
  kernel_rfl
  rw [litT 166]
  rotate_left
  kernel_rfl
  generalize rtB 161 = s1 at *
  generalize rtB 162 = s2 at *
  generalize rtB 166 = s6 at *
  simp only [Tryd.ntmps13, List.size_toArray, List.length_cons, List.length_nil, Nat.reduceAdd, Nat.reduceSub, Array.replicate_succ, Array.replicate_zero, List.push_toArray, List.append_toArray, List.nil_append, List.cons_append]
  go_wp2_with (first | (go_at_call 30; refine (hn _).mono ?_; rintro e w1 ⟨rfl, hb1⟩))
  go_ret
  exact ⟨rfl, hb1⟩
theorem Row162 (b : Int) (hb : 161 ≤ b ∧ b ≤ 254) (hin : b - 161 < 71) (w : World) :
    Calls Tryd.prog 13 #[.int .i64 162, .int .i64 b] w fun e w' => e = .returned (.int .i32 ((listW 162).getD (b - 161).toNat 0)) ∧ Below w.heap.size w w' := by
  have hn := fun w => RNth_any (rtB 162) (listW 162) (rtB_good 162 (by omega)) (by have := rtB_size 162 (by omega); omega) (b - 161).toNat (by have := len_chk; show _ < LA2.length; omega) (by omega) w
  rw [show (((b - 161).toNat : Nat) : Int) = b - 161 by omega] at hn
  generalize (listW 162).getD (b - 161).toNat 0 = v at *
  refine calls_of_wp Tryd.func13 rfl ?_
  rw [litT 161]
  rotate_left
  kernel_rfl
  rw [litT 162]
  rotate_left
  kernel_rfl
  rw [litT 166]
  rotate_left
  kernel_rfl
  generalize rtB 161 = s1 at *
  generalize rtB 162 = s2 at *
  generalize rtB 166 = s6 at *
  simp only [Tryd.ntmps13, List.size_toArray, List.length_cons, List.length_nil, Nat.reduceAdd, Nat.reduceSub, Array.replicate_succ, Array.replicate_zero, List.push_toArray, List.append_toArray, List.nil_append, List.cons_append]
  have hd : decide (b - 161 < 71) = true := by simpa using hin
  go_wp2_with (first | (go_at_call 30; refine (hn _).mono ?_; rintro e w1 ⟨rfl, hb1⟩))
  go_ret
  exact ⟨rfl, hb1⟩
theorem Row162_no (b : Int) (hb : 161 ≤ b ∧ b ≤ 254) (hin : ¬ b - 161 < 71) (w : World) :
    Calls Tryd.prog 13 #[.int .i64 162, .int .i64 b] w fun e w' => e = .returned (.int .i32 0) ∧ Below w.heap.size w w' := by
  obtain ⟨b0, b1⟩ := hb
  refine calls_of_wp Tryd.func13 rfl ?_
  rw [litT 161]
  rotate_left
  kernel_rfl
  rw [litT 162]
  rotate_left
  kernel_rfl
  rw [litT 166]
  rotate_left
  kernel_rfl
  generalize rtB 161 = s1 at *
  generalize rtB 162 = s2 at *
  generalize rtB 166 = s6 at *
  simp only [Tryd.ntmps13, List.size_toArray, List.length_cons, List.length_nil, Nat.reduceAdd, Nat.reduceSub, Array.replicate_succ, Array.replicate_zero, List.push_toArray, List.append_toArray, List.nil_append, List.cons_append]
  have hd : decide (b - 161 < 71) = false := by simp; omega
  go_wp2_with fail
  go_ret
  exact ⟨rfl, Below.refl _ _⟩
theorem Row166 (b : Int) (hb : 161 ≤ b ∧ b ≤ 254) (hin : b - 161 < 68) (w : World) :
    Calls Tryd.prog 13 #[.int .i64 166, .int .i64 b] w fun e w' => e = .returned (.int .i32 ((listW 166).getD (b - 161).toNat 0)) ∧ Below w.heap.size w w' := by
  have hn := fun w => RNth_any (rtB 166) (listW 166) (rtB_good 166 (by omega)) (by have := rtB_size 166 (by omega); omega) (b - 161).toNat (by have := len_chk; show _ < LA6.length; omega) (by omega) w
  rw [show (((b - 161).toNat : Nat) : Int) = b - 161 by omega] at hn
  generalize (listW 166).getD (b - 161).toNat 0 = v at *
  refine calls_of_wp Tryd.func13 rfl ?_
  rw [litT 161]
  rotate_left
  kernel_rfl
  rw [litT 162]
  rotate_left
  kernel_rfl
  rw [litT 166]
  rotate_left
  kernel_rfl
  generalize rtB 161 = s1 at *
  generalize rtB 162 = s2 at *
  generalize rtB 166 = s6 at *
  simp only [Tryd.ntmps13, List.size_toArray, List.length_cons, List.length_nil, Nat.reduceAdd, Nat.reduceSub, Array.replicate_succ, Array.replicate_zero, List.push_toArray, List.append_toArray, List.nil_append, List.cons_append]
  have hd : decide (b - 161 < 68) = true := by simpa using hin
  go_wp2_with (first | (go_at_call 30; refine (hn _).mono ?_; rintro e w1 ⟨rfl, hb1⟩))
  go_ret
  exact ⟨rfl, hb1⟩
theorem Row166_no (b : Int) (hb : 161 ≤ b ∧ b ≤ 254) (hin : ¬ b - 161 < 68) (w : World) :
    Calls Tryd.prog 13 #[.int .i64 166, .int .i64 b] w fun e w' => e = .returned (.int .i32 0) ∧ Below w.heap.size w w' := by
  obtain ⟨b0, b1⟩ := hb
  refine calls_of_wp Tryd.func13 rfl ?_
  rw [litT 161]
  rotate_left
  kernel_rfl
  rw [litT 162]
  rotate_left
  kernel_rfl
  rw [litT 166]
  rotate_left
  kernel_rfl
  generalize rtB 161 = s1 at *
  generalize rtB 162 = s2 at *
  generalize rtB 166 = s6 at *
  simp only [Tryd.ntmps13, List.size_toArray, List.length_cons, List.length_nil, Nat.reduceAdd, Nat.reduceSub, Array.replicate_succ, Array.replicate_zero, List.push_toArray, List.append_toArray, List.nil_append, List.cons_append]
  have hd : decide (b - 161 < 68) = false := by simp; omega
  go_wp2_with fail
  go_ret
  exact ⟨rfl, Below.refl _ _⟩
theorem Row163 (b : Int) (hb : 161 ≤ b ∧ b ≤ 254) (w : World) :
    Calls Tryd.prog 13 #[.int .i64 163, .int .i64 b] w fun e w' => e = .returned (.int .i32 (if b = 220 then 65510 else if b = 254 then 65507 else 65281 + b - 161)) ∧ Below w.heap.size w w' := by
  obtain ⟨b0, b1⟩ := hb
  refine calls_of_wp Tryd.func13 rfl ?_
  rw [litT 161]
  rotate_left
  kernel_rfl
  rw [litT 162]
  rotate_left
  kernel_rfl
  rw [litT 166]
  rotate_left
  kernel_rfl
  generalize rtB 161 = s1 at *
  generalize rtB 162 = s2 at *
  generalize rtB 166 = s6 at *
  simp only [Tryd.ntmps13, List.size_toArray, List.length_cons, List.length_nil, Nat.reduceAdd, Nat.reduceSub, Array.replicate_succ, Array.replicate_zero, List.push_toArray, List.append_toArray, List.nil_append, List.cons_append]
  by_cases h1 : b = 220
  · subst h1
    go_wp2_with fail
    go_ret
    exact ⟨rfl, Below.refl _ _⟩
  rw [if_neg h1]
  have e1 : (b == 220) = false := by simpa using h1
  by_cases h2 : b = 254
  · subst h2
    go_wp2_with fail
    go_ret
    exact ⟨rfl, Below.refl _ _⟩
  rw [if_neg h2]
  have e2 : (b == 254) = false := by simpa using h2
  go_wp2_with fail
  go_ret
  exact ⟨rfl, Below.refl _ _⟩
theorem Row164 (b : Int) (hb : 161 ≤ b ∧ b ≤ 254) (w : World) :
    Calls Tryd.prog 13 #[.int .i64 164, .int .i64 b] w fun e w' => e = .returned (.int .i32 (12593 + b - 161)) ∧ Below w.heap.size w w' := by
  obtain ⟨b0, b1⟩ := hb
  refine calls_of_wp Tryd.func13 rfl ?_
  rw [litT 161]
  rotate_left
  kernel_rfl
  rw [litT 162]
  rotate_left
  kernel_rfl
  rw [litT 166]
  rotate_left
  kernel_rfl
  generalize rtB 161 = s1 at *
  generalize rtB 162 = s2 at *
  generalize rtB 166 = s6 at *
  simp only [Tryd.ntmps13, List.size_toArray, List.length_cons, List.length_nil, Nat.reduceAdd, Nat.reduceSub, Array.replicate_succ, Array.replicate_zero, List.push_toArray, List.append_toArray, List.nil_append, List.cons_append]
  go_wp2_with fail
  go_ret
  exact ⟨rfl, Below.refl _ _⟩
theorem Row165 (b : Int) (hb : 161 ≤ b ∧ b ≤ 254) (w : World) :
    Calls Tryd.prog 13 #[.int .i64 165, .int .i64 b] w fun e w' => e = .returned (.int .i32 (spanR b 161 170 8560 + spanR b 176 185 8544 + spanR b 193 209 913 + spanR b 210 216 931 + spanR b 225 241 945 + spanR b 242 248 963)) ∧ Below w.heap.size w w' := by
  have h0 := fun w => RSpan_any b 161 170 8560 (by omega) (by omega) (by omega) w
  obtain ⟨l0, u0⟩ := spanR_bd b 161 170 8560 (by omega) (by omega) (by omega)
  have h1 := fun w => RSpan_any b 176 185 8544 (by omega) (by omega) (by omega) w
  obtain ⟨l1, u1⟩ := spanR_bd b 176 185 8544 (by omega) (by omega) (by omega)
  have h2 := fun w => RSpan_any b 193 209 913 (by omega) (by omega) (by omega) w
  obtain ⟨l2, u2⟩ := spanR_bd b 193 209 913 (by omega) (by omega) (by omega)
  have h3 := fun w => RSpan_any b 210 216 931 (by omega) (by omega) (by omega) w
  obtain ⟨l3, u3⟩ := spanR_bd b 210 216 931 (by omega) (by omega) (by omega)
  have h4 := fun w => RSpan_any b 225 241 945 (by omega) (by omega) (by omega) w
  obtain ⟨l4, u4⟩ := spanR_bd b 225 241 945 (by omega) (by omega) (by omega)
  have h5 := fun w => RSpan_any b 242 248 963 (by omega) (by omega) (by omega) w
  obtain ⟨l5, u5⟩ := spanR_bd b 242 248 963 (by omega) (by omega) (by omega)
  generalize spanR b 161 170 8560 = x0 at *
  generalize spanR b 176 185 8544 = x1 at *
  generalize spanR b 193 209 913 = x2 at *
  generalize spanR b 210 216 931 = x3 at *
  generalize spanR b 225 241 945 = x4 at *
  generalize spanR b 242 248 963 = x5 at *
  refine calls_of_wp Tryd.func13 rfl ?_
  rw [litT 161]
  rotate_left
  kernel_rfl
  rw [litT 162]
  rotate_left
  kernel_rfl
  rw [litT 166]
  rotate_left
  kernel_rfl
  generalize rtB 161 = s1 at *
  generalize rtB 162 = s2 at *
  generalize rtB 166 = s6 at *
  simp only [Tryd.ntmps13, List.size_toArray, List.length_cons, List.length_nil, Nat.reduceAdd, Nat.reduceSub, Array.replicate_succ, Array.replicate_zero, List.push_toArray, List.append_toArray, List.nil_append, List.cons_append]
  go_wp2_with (first | (go_at_call 31; first | ((with_reducible refine (h0 _).mono ?_); rintro e w1 ⟨rfl, rfl⟩; clear h0) | ((with_reducible refine (h1 _).mono ?_); rintro e w1 ⟨rfl, rfl⟩; clear h1) | ((with_reducible refine (h2 _).mono ?_); rintro e w1 ⟨rfl, rfl⟩; clear h2) | ((with_reducible refine (h3 _).mono ?_); rintro e w1 ⟨rfl, rfl⟩; clear h3) | ((with_reducible refine (h4 _).mono ?_); rintro e w1 ⟨rfl, rfl⟩; clear h4) | ((with_reducible refine (h5 _).mono ?_); rintro e w1 ⟨rfl, rfl⟩; clear h5)))
  go_ret
  exact ⟨rfl, Below.refl _ _⟩
theorem Row170 (b : Int) (hb : 161 ≤ b ∧ b ≤ 254) (w : World) :
    Calls Tryd.prog 13 #[.int .i64 170, .int .i64 b] w fun e w' => e = .returned (.int .i32 (spanR b 161 243 12353)) ∧ Below w.heap.size w w' := by
  have h0 := fun w => RSpan_any b 161 243 12353 (by omega) (by omega) (by omega) w
  obtain ⟨l0, u0⟩ := spanR_bd b 161 243 12353 (by omega) (by omega) (by omega)
  generalize spanR b 161 243 12353 = x0 at *
  refine calls_of_wp Tryd.func13 rfl ?_
  rw [litT 161]
  rotate_left
  kernel_rfl
  rw [litT 162]
  rotate_left
  kernel_rfl
  rw [litT 166]
  rotate_left
  kernel_rfl
  generalize rtB 161 = s1 at *
  generalize rtB 162 = s2 at *
  generalize rtB 166 = s6 at *
  simp only [Tryd.ntmps13, List.size_toArray, List.length_cons, List.length_nil, Nat.reduceAdd, Nat.reduceSub, Array.replicate_succ, Array.replicate_zero, List.push_toArray, List.append_toArray, List.nil_append, List.cons_append]
  go_wp2_with (first | (go_at_call 31; first | ((with_reducible refine (h0 _).mono ?_); rintro e w1 ⟨rfl, rfl⟩; clear h0)))
  go_ret
  exact ⟨rfl, Below.refl _ _⟩
theorem Row171 (b : Int) (hb : 161 ≤ b ∧ b ≤ 254) (w : World) :
    Calls Tryd.prog 13 #[.int .i64 171, .int .i64 b] w fun e w' => e = .returned (.int .i32 (spanR b 161 246 12449)) ∧ Below w.heap.size w w' := by
  have h0 := fun w => RSpan_any b 161 246 12449 (by omega) (by omega) (by omega) w
  obtain ⟨l0, u0⟩ := spanR_bd b 161 246 12449 (by omega) (by omega) (by omega)
  generalize spanR b 161 246 12449 = x0 at *
  refine calls_of_wp Tryd.func13 rfl ?_
  rw [litT 161]
  rotate_left
  kernel_rfl
  rw [litT 162]
  rotate_left
  kernel_rfl
  rw [litT 166]
  rotate_left
  kernel_rfl
  generalize rtB 161 = s1 at *
  generalize rtB 162 = s2 at *
  generalize rtB 166 = s6 at *
  simp only [Tryd.ntmps13, List.size_toArray, List.length_cons, List.length_nil, Nat.reduceAdd, Nat.reduceSub, Array.replicate_succ, Array.replicate_zero, List.push_toArray, List.append_toArray, List.nil_append, List.cons_append]
  go_wp2_with (first | (go_at_call 31; first | ((with_reducible refine (h0 _).mono ?_); rintro e w1 ⟨rfl, rfl⟩; clear h0)))
  go_ret
  exact ⟨rfl, Below.refl _ _⟩
theorem Row172 (b : Int) (hb : 161 ≤ b ∧ b ≤ 254) (w : World) :
    Calls Tryd.prog 13 #[.int .i64 172, .int .i64 b] w fun e w' => e = .returned (.int .i32 (spanR b 161 166 1040 + spanR b 167 167 1025 + spanR b 168 193 1046 + spanR b 209 214 1072 + spanR b 215 215 1105 + spanR b 216 241 1078)) ∧ Below w.heap.size w w' := by
  have h0 := fun w => RSpan_any b 161 166 1040 (by omega) (by omega) (by omega) w
  obtain ⟨l0, u0⟩ := spanR_bd b 161 166 1040 (by omega) (by omega) (by omega)
  have h1 := fun w => RSpan_any b 167 167 1025 (by omega) (by omega) (by omega) w
  obtain ⟨l1, u1⟩ := spanR_bd b 167 167 1025 (by omega) (by omega) (by omega)
  have h2 := fun w => RSpan_any b 168 193 1046 (by omega) (by omega) (by omega) w
  obtain ⟨l2, u2⟩ := spanR_bd b 168 193 1046 (by omega) (by omega) (by omega)
  have h3 := fun w => RSpan_any b 209 214 1072 (by omega) (by omega) (by omega) w
  obtain ⟨l3, u3⟩ := spanR_bd b 209 214 1072 (by omega) (by omega) (by omega)
  have h4 := fun w => RSpan_any b 215 215 1105 (by omega) (by omega) (by omega) w
  obtain ⟨l4, u4⟩ := spanR_bd b 215 215 1105 (by omega) (by omega) (by omega)
  have h5 := fun w => RSpan_any b 216 241 1078 (by omega) (by omega) (by omega) w
  obtain ⟨l5, u5⟩ := spanR_bd b 216 241 1078 (by omega) (by omega) (by omega)
  generalize spanR b 161 166 1040 = x0 at *
  generalize spanR b 167 167 1025 = x1 at *
  generalize spanR b 168 193 1046 = x2 at *
  generalize spanR b 209 214 1072 = x3 at *
  generalize spanR b 215 215 1105 = x4 at *
  generalize spanR b 216 241 1078 = x5 at *
  refine calls_of_wp Tryd.func13 rfl ?_
  rw [litT 161]
  rotate_left
  kernel_rfl
  rw [litT 162]
  rotate_left
  kernel_rfl
  rw [litT 166]
  rotate_left
  kernel_rfl
  generalize rtB 161 = s1 at *
  generalize rtB 162 = s2 at *
  generalize rtB 166 = s6 at *
  simp only [Tryd.ntmps13, List.size_toArray, List.length_cons, List.length_nil, Nat.reduceAdd, Nat.reduceSub, Array.replicate_succ, Array.replicate_zero, List.push_toArray, List.append_toArray, List.nil_append, List.cons_append]
  go_wp2_with (first | (go_at_call 31; first | ((with_reducible refine (h0 _).mono ?_); rintro e w1 ⟨rfl, rfl⟩; clear h0) | ((with_reducible refine (h1 _).mono ?_); rintro e w1 ⟨rfl, rfl⟩; clear h1) | ((with_reducible refine (h2 _).mono ?_); rintro e w1 ⟨rfl, rfl⟩; clear h2) | ((with_reducible refine (h3 _).mono ?_); rintro e w1 ⟨rfl, rfl⟩; clear h3) | ((with_reducible refine (h4 _).mono ?_); rintro e w1 ⟨rfl, rfl⟩; clear h4) | ((with_reducible refine (h5 _).mono ?_); rintro e w1 ⟨rfl, rfl⟩; clear h5)))
  go_ret
  exact ⟨rfl, Below.refl _ _⟩
theorem Row_no (b : Int) (hb : 161 ≤ b ∧ b ≤ 254) (lead : Int) (hl : lead ≠ 161 ∧ lead ≠ 162 ∧ lead ≠ 163 ∧ lead ≠ 164 ∧ lead ≠ 165 ∧ lead ≠ 166 ∧ lead ≠ 170 ∧ lead ≠ 171 ∧ lead ≠ 172) (w : World) :
    Calls Tryd.prog 13 #[.int .i64 lead, .int .i64 b] w fun e w' => e = .returned (.int .i32 0) ∧ Below w.heap.size w w' := by
  obtain ⟨b0, b1⟩ := hb
  have e161 : (lead == 161) = false := by simp; omega
  have e162 : (lead == 162) = false := by simp; omega
  have e163 : (lead == 163) = false := by simp; omega
  have e164 : (lead == 164) = false := by simp; omega
  have e165 : (lead == 165) = false := by simp; omega
  have e166 : (lead == 166) = false := by simp; omega
  have e170 : (lead == 170) = false := by simp; omega
  have e171 : (lead == 171) = false := by simp; omega
  have e172 : (lead == 172) = false := by simp; omega
  refine calls_of_wp Tryd.func13 rfl ?_
  rw [litT 161]
  rotate_left
  kernel_rfl
  rw [litT 162]
  rotate_left
  kernel_rfl
  rw [litT 166]
  rotate_left
  kernel_rfl
  generalize rtB 161 = s1 at *
  generalize rtB 162 = s2 at *
  generalize rtB 166 = s6 at *
  simp only [Tryd.ntmps13, List.size_toArray, List.length_cons, List.length_nil, Nat.reduceAdd, Nat.reduceSub, Array.replicate_succ, Array.replicate_zero, List.push_toArray, List.append_toArray, List.nil_append, List.cons_append]
  go_wp2_with fail
  go_ret
  exact ⟨rfl, Below.refl _ _⟩
theorem RRow_any (lead b : Int) (hb : 161 ≤ b ∧ b ≤ 254) (w : World) :
    Calls Tryd.prog 13 #[.int .i64 lead, .int .i64 b] w fun e w' => e = .returned (.int .i32 (rowZ lead b)) ∧ Below w.heap.size w w' := by
  unfold rowZ
  by_cases h161 : lead = 161
  · rw [if_pos h161]
    subst h161
    exact Row161 b hb w
  rw [if_neg h161]
  by_cases h162 : lead = 162
  · rw [if_pos h162]
    subst h162
    by_cases hin : b - 161 < 71
    · rw [if_pos hin]; exact Row162 b hb hin w
    · rw [if_neg hin]; exact Row162_no b hb hin w
  rw [if_neg h162]
  by_cases h163 : lead = 163
  · rw [if_pos h163]
    subst h163
    exact Row163 b hb w
  rw [if_neg h163]
  by_cases h164 : lead = 164
  · rw [if_pos h164]
    subst h164
    exact Row164 b hb w
  rw [if_neg h164]
  by_cases h165 : lead = 165
  · rw [if_pos h165]
    subst h165
    exact Row165 b hb w
  rw [if_neg h165]
  by_cases h166 : lead = 166
  · rw [if_pos h166]
    subst h166
    by_cases hin : b - 161 < 68
    · rw [if_pos hin]; exact Row166 b hb hin w
    · rw [if_neg hin]; exact Row166_no b hb hin w
  rw [if_neg h166]
  by_cases h170 : lead = 170
  · rw [if_pos h170]
    subst h170
    exact Row170 b hb w
  rw [if_neg h170]
  by_cases h171 : lead = 171
  · rw [if_pos h171]
    subst h171
    exact Row171 b hb w
  rw [if_neg h171]
  by_cases h172 : lead = 172
  · rw [if_pos h172]
    subst h172
    exact Row172 b hb w
  rw [if_neg h172]
  exact Row_no b hb lead ⟨h161, h162, h163, h164, h165, h166, h170, h171, h172⟩ w
end Go.Proofs.YtpnjandlpbjddabDoor

/- The document's Sign and RowCode (chapter 07); no condition but small numbers. -/
set_option maxRecDepth 100000
set_option maxHeartbeats 1000000
namespace Go.Proofs.YtpnjandlpbjddabDoor
open Go Go.RowKit

theorem spanF_zero (code : Int) : ∀ l : List (Int × Int × Int), (∀ s ∈ l, s.1 + s.2.2 ≤ code) → spanF l code = 0
  | [], _ => rfl
  | (c, t, n) :: l, h => by
    have h1 := h (c, t, n) (by simp)
    unfold spanF
    rw [if_neg (by simp only at h1; omega)]
    exact spanF_zero code l fun s hs => h s (by simp [hs])
theorem row_other (lead b : Int) (hl : 161 ≤ lead ∧ lead ≤ 254) (hb : 161 ≤ b ∧ b ≤ 254) : rowZ lead b = otherZ lead b := by
  by_cases h : lead ≤ 172
  · have := List.all_eq_true.1 (List.all_eq_true.1 row_chk lead (mem_leadsW ⟨hl.1, h⟩)) b (mem_bytesW hb)
    exact (eqI_eq this).symm
  · have h1 : rowZ lead b = 0 := by
      unfold rowZ
      rw [if_neg (by omega), if_neg (by omega), if_neg (by omega), if_neg (by omega), if_neg (by omega), if_neg (by omega), if_neg (by omega), if_neg (by omega), if_neg (by omega)]
    have h2 : (listW lead).isEmpty = true := by
      unfold listW
      rw [if_neg (by omega), if_neg (by omega), if_neg (by omega)]
      rfl
    unfold otherZ
    rw [h1, if_neg (by omega), if_pos h2, spanF_zero]
    intro s hs
    have := List.all_eq_true.1 spn_chk s hs
    simp only [Bool.and_eq_true, decide_eq_true_eq] at this
    omega
def KPostZ (k : Int) (b : Bool) (w0 : World) (e : Ending) (w' : World) : Prop := ∃ p, e = .returned (.int .i32 p) ∧ KthZ k b p ∧ Below w0.heap.size w0 w'
def RSgPost (lead b : Int) (w0 : World) (e : Ending) (w' : World) : Prop := ∃ p, e = .returned (.int .i32 p) ∧ SignIs lead b p ∧ Below w0.heap.size w0 w'
/-- The code that RowCode finds, or -1. -/
def RcIs (p c : Int) : Prop := (∃ l b : Int, 161 ≤ l ∧ l ≤ 172 ∧ 161 ≤ b ∧ b ≤ 254 ∧ rowZ l b = p ∧ c = l * 256 + b) ∨ (c = -1 ∧ ∀ l b : Int, 161 ≤ l → l ≤ 172 → 161 ≤ b → b ≤ 254 → rowZ l b ≠ p)
def RcPost (p : Int) (w0 : World) (e : Ending) (w' : World) : Prop := ∃ c, e = .returned (.int .i64 c) ∧ RcIs p c ∧ Below w0.heap.size w0 w'
def RcRel (p : Int) (w0 : World) (l : Value) (wr : World) : Prop := ∃ x : Int, 161 ≤ x ∧ x ≤ 173 ∧ l = .int .i64 x ∧ (∀ l b : Int, 161 ≤ l → l < x → 161 ≤ b → b ≤ 254 → rowZ l b ≠ p) ∧ Below w0.heap.size w0 wr
def RcIn (p x : Int) (w0 : World) (b : Value) (wr : World) : Prop := ∃ y : Int, 161 ≤ y ∧ y ≤ 255 ∧ b = .int .i64 y ∧ (∀ b : Int, 161 ≤ b → b < y → rowZ x b ≠ p) ∧ Below w0.heap.size w0 wr
end Go.Proofs.YtpnjandlpbjddabDoor
