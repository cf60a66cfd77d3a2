/- The document's Sign and RowCode (chapter 07); no condition but small numbers. -/
import Derived.Test.YtllmjlmeheohlaaDoorSY
set_option maxRecDepth 100000
set_option maxHeartbeats 1000000
namespace Go.Proofs.YtllmjlmeheohlaaDoor
open Go Go.RowKit

theorem spanF_zero (code : Int) : ∀ l : List (Int × Int × Int), (∀ s ∈ l, s.1 + s.2.2 ≤ code) → spanF l code = 0
  | [], _ => rfl
  | (c, t, n) :: l, h => by
    have h1 := h (c, t, n) (by simp)
    unfold spanF
    rw [if_neg (by simp only at h1; omega)]
    exact spanF_zero code l fun s hs => h s (by simp [hs])
theorem row_other (lead b : Int) (hl : 161 ≤ lead ∧ lead ≤ 254) (hb : 161 ≤ b ∧ b ≤ 254) : rowZ lead b = otherZ lead b := by
  by_cases h : lead ≤ 172
  · have := List.all_eq_true.1 (List.all_eq_true.1 row_chk lead (mem_leadsW ⟨hl.1, h⟩)) b (mem_bytesW hb)
    exact (eqI_eq this).symm
  · have h1 : rowZ lead b = 0 := by
      unfold rowZ
      rw [if_neg (by omega), if_neg (by omega), if_neg (by omega), if_neg (by omega), if_neg (by omega), if_neg (by omega), if_neg (by omega), if_neg (by omega), if_neg (by omega)]
    have h2 : (listW lead).isEmpty = true := by
      unfold listW
      rw [if_neg (by omega), if_neg (by omega), if_neg (by omega)]
      rfl
    unfold otherZ
    rw [h1, if_neg (by omega), if_pos h2, spanF_zero]
    intro s hs
    have := List.all_eq_true.1 spn_chk s hs
    simp only [Bool.and_eq_true, decide_eq_true_eq] at this
    omega
def KPostZ (k : Int) (b : Bool) (w0 : World) (e : Ending) (w' : World) : Prop := ∃ p, e = .returned (.int .i32 p) ∧ KthZ k b p ∧ Below w0.heap.size w0 w'
theorem Kth_z (k : Int) (h0 : 0 ≤ k) (hk : k ≤ 1000000) (b : Bool) (w : World) :
    Calls Tryd.prog 14 #[.int .i64 k, .bool b] w (KPostZ k b w) := by
  have := Kth_any k.toNat (by omega) b w
  rw [show ((k.toNat : Nat) : Int) = k by omega] at this
  exact this.mono fun e w' ⟨p, h1, h2, h3⟩ => ⟨p, h1, .inr ⟨h0, h2⟩, h3⟩
def RSgPost (lead b : Int) (w0 : World) (e : Ending) (w' : World) : Prop := ∃ p, e = .returned (.int .i32 p) ∧ SignIs lead b p ∧ Below w0.heap.size w0 w'
theorem RSign_any (lead b : Int) (hl : 0 ≤ lead ∧ lead ≤ 255) (hb : 0 ≤ b ∧ b ≤ 255) (w : World) :
    Calls Tryd.prog 16 #[.int .i64 lead, .int .i64 b] w (RSgPost lead b w) := by
  generalize hP : RSgPost lead b w = P at *
  have hnum := fun w => RSecond_any b (by omega) w
  have hsb := secZ_bd b
  obtain ⟨l0, l1⟩ := hl
  obtain ⟨b0, b1⟩ := hb
  by_cases hA : secZ b < 0 ∨ lead < 129 ∨ 254 < lead
  · have hr : SignIs lead b 0 := by unfold SignIs; rw [if_pos hA]
    have Hr := Lib.hid hr
    clear hr
    generalize secZ b = n at *
    by_cases h1 : n < 0
    · clear hA
      go_enter Tryd.func16, Tryd.ntmps16
      go_wp2_with (first | (go_at_call 28; refine (hnum _).mono ?_; rintro e w1 ⟨rfl, hb1⟩))
      show P (.returned (.int .i32 0)) _
      rw [← hP]
      exact ⟨0, rfl, Hr.out, hb1⟩
    · by_cases h2 : lead < 129
      · clear hA
        go_enter Tryd.func16, Tryd.ntmps16
        go_wp2_with (first | (go_at_call 28; refine (hnum _).mono ?_; rintro e w1 ⟨rfl, hb1⟩))
        show P (.returned (.int .i32 0)) _
        rw [← hP]
        exact ⟨0, rfl, Hr.out, hb1⟩
      · have h3 : 254 < lead := by omega
        clear hA
        go_enter Tryd.func16, Tryd.ntmps16
        go_wp2_with (first | (go_at_call 28; refine (hnum _).mono ?_; rintro e w1 ⟨rfl, hb1⟩))
        show P (.returned (.int .i32 0)) _
        rw [← hP]
        exact ⟨0, rfl, Hr.out, hb1⟩
  have hS : ∀ p, SignIs lead b p ↔ (if lead < 161 then KthZ ((lead - 129) * 178 + secZ b) false p else if b < 161 then KthZ (5696 + (lead - 161) * 84 + secZ b) false p else RowIs lead b p) := fun p => by unfold SignIs; rw [if_neg hA]
  have hA0 : ¬ secZ b < 0 := by omega
  have hA1 : ¬ lead < 129 := by omega
  have hA2 : ¬ 254 < lead := by omega
  clear hA
  have h255 : b ≠ 255 := by
    intro h
    subst h
    exact hA0 (by decide)
  by_cases hE : lead < 161
  · have hr : ∀ p, KthZ ((lead - 129) * 178 + secZ b) false p → SignIs lead b p := fun p hp => (hS p).2 (by rw [if_pos hE]; exact hp)
    have hk := fun w => Kth_z ((lead - 129) * 178 + secZ b) (by omega) (by omega) false w
    have Hr := Lib.hid hr
    clear hr hS
    generalize secZ b = n at *
    go_enter Tryd.func16, Tryd.ntmps16
    go_wp2_with (first | (go_at_call 28; refine (hnum _).mono ?_; rintro e w1 ⟨rfl, hb1⟩) | (go_at_call 14; refine (hk _).mono ?_; rintro e w2 ⟨p, rfl, hp, hb2⟩))
    show P (.returned (.int .i32 p)) _
    rw [← hP]
    exact ⟨p, rfl, Hr.out p hp, hb1.trans (hb2.mono hb1.size)⟩
  by_cases hF : b < 161
  · have hr : ∀ p, KthZ (5696 + (lead - 161) * 84 + secZ b) false p → SignIs lead b p := fun p hp => (hS p).2 (by rw [if_neg hE, if_pos hF]; exact hp)
    have hk := fun w => Kth_z (5696 + (lead - 161) * 84 + secZ b) (by omega) (by omega) false w
    have Hr := Lib.hid hr
    clear hr hS
    generalize secZ b = n at *
    go_enter Tryd.func16, Tryd.ntmps16
    go_wp2_with (first | (go_at_call 28; refine (hnum _).mono ?_; rintro e w1 ⟨rfl, hb1⟩) | (go_at_call 14; refine (hk _).mono ?_; rintro e w2 ⟨p, rfl, hp, hb2⟩))
    show P (.returned (.int .i32 p)) _
    rw [← hP]
    exact ⟨p, rfl, Hr.out p hp, hb1.trans (hb2.mono hb1.size)⟩
  by_cases hG : 176 ≤ lead ∧ lead ≤ 200
  · have hr : ∀ p, KthZ ((lead - 176) * 94 + b - 161) true p → SignIs lead b p := fun p hp => (hS p).2 (by rw [if_neg hE, if_neg hF]; unfold RowIs; rw [if_neg h255, if_pos hG]; exact hp)
    have hk := fun w => Kth_z ((lead - 176) * 94 + b - 161) (by omega) (by omega) true w
    have Hr := Lib.hid hr
    clear hr hS
    obtain ⟨g1, g2⟩ := hG
    generalize secZ b = n at *
    go_enter Tryd.func16, Tryd.ntmps16
    go_wp2_with (first | (go_at_call 28; refine (hnum _).mono ?_; rintro e w1 ⟨rfl, hb1⟩) | (go_at_call 14; refine (hk _).mono ?_; rintro e w2 ⟨p, rfl, hp, hb2⟩))
    show P (.returned (.int .i32 p)) _
    rw [← hP]
    exact ⟨p, rfl, Hr.out p hp, hb1.trans (hb2.mono hb1.size)⟩
  · have hr : SignIs lead b (rowZ lead b) := (hS _).2 (by rw [if_neg hE, if_neg hF]; unfold RowIs; rw [if_neg h255, if_neg hG]; exact row_other lead b (by omega) (by omega))
    have hk := fun w => RRow_any lead b (by omega) w
    have Hr := Lib.hid hr
    clear hr hS
    generalize secZ b = n at *
    generalize rowZ lead b = p at *
    by_cases h1 : 176 ≤ lead
    · have h2 : ¬ lead ≤ 200 := by omega
      clear hG
      go_enter Tryd.func16, Tryd.ntmps16
      go_wp2_with (first | (go_at_call 28; refine (hnum _).mono ?_; rintro e w1 ⟨rfl, hb1⟩) | (go_at_call 20; refine (hk _).mono ?_; rintro e w2 ⟨rfl, hb2⟩))
      show P (.returned (.int .i32 p)) _
      rw [← hP]
      exact ⟨p, rfl, Hr.out, hb1.trans (hb2.mono hb1.size)⟩
    · clear hG
      go_enter Tryd.func16, Tryd.ntmps16
      go_wp2_with (first | (go_at_call 28; refine (hnum _).mono ?_; rintro e w1 ⟨rfl, hb1⟩) | (go_at_call 20; refine (hk _).mono ?_; rintro e w2 ⟨rfl, hb2⟩))
      show P (.returned (.int .i32 p)) _
      rw [← hP]
      exact ⟨p, rfl, Hr.out, hb1.trans (hb2.mono hb1.size)⟩
/-- The code that RowCode finds, or -1. -/
def RcIs (p c : Int) : Prop := (∃ l b : Int, 161 ≤ l ∧ l ≤ 172 ∧ 161 ≤ b ∧ b ≤ 254 ∧ rowZ l b = p ∧ c = l * 256 + b) ∨ (c = -1 ∧ ∀ l b : Int, 161 ≤ l → l ≤ 172 → 161 ≤ b → b ≤ 254 → rowZ l b ≠ p)
def RcPost (p : Int) (w0 : World) (e : Ending) (w' : World) : Prop := ∃ c, e = .returned (.int .i64 c) ∧ RcIs p c ∧ Below w0.heap.size w0 w'
def RcRel (p : Int) (w0 : World) (l : Value) (wr : World) : Prop := ∃ x : Int, 161 ≤ x ∧ x ≤ 173 ∧ l = .int .i64 x ∧ (∀ l b : Int, 161 ≤ l → l < x → 161 ≤ b → b ≤ 254 → rowZ l b ≠ p) ∧ Below w0.heap.size w0 wr
def RcIn (p x : Int) (w0 : World) (b : Value) (wr : World) : Prop := ∃ y : Int, 161 ≤ y ∧ y ≤ 255 ∧ b = .int .i64 y ∧ (∀ b : Int, 161 ≤ b → b < y → rowZ x b ≠ p) ∧ Below w0.heap.size w0 wr
theorem RowCode_any (p : Int) (w : World) :
    Calls Tryd.prog 18 #[.int .i32 p] w (RcPost p w) := by
  generalize hP : RcPost p w = P at *
  go_enter Tryd.func18, Tryd.ntmps18
  go_wp2_with fail
  go_loopw [3] (fun l wr => RcRel p w l wr) (fun l _ => 173 - (intOf l).toNat)
  case atStart => exact ⟨161, by omega, by omega, rfl, fun l b h1 h2 => by omega, Below.refl _ _⟩
  case round =>
    obtain ⟨x, hx1, hx2, rfl, hno, hb⟩ := hrel
    have Hno := Lib.hid hno
    clear hno
    by_cases hx : x ≤ 172
    · go_wp2_with fail
      obtain ⟨wo, rfl⟩ : ∃ wo : World, wo = wr := ⟨_, rfl⟩
      go_loopw [4] (fun b wr => RcIn p x w b wr) (fun b _ => 255 - (intOf b).toNat)
      case atStart => exact ⟨161, by omega, by omega, rfl, fun b h1 h2 => by omega, hb⟩
      case round =>
        obtain ⟨y, hy1, hy2, rfl, hin, hbr⟩ := hrel
        have Hin := Lib.hid hin
        clear hin
        by_cases hy : y ≤ 254
        · have hk := fun w => RRow_any x y ⟨hy1, hy⟩ w
          generalize hv : rowZ x y = v at *
          have Hv := Lib.hid hv
          clear hv
          by_cases he : v = p
          · subst he
            go_wp2_with (first | (go_at_call 20; refine (hk _).mono ?_; rintro e w2 ⟨rfl, hb2⟩))
            show P (.returned (.int .i64 (x * 256 + y))) _
            rw [← hP]
            exact ⟨_, rfl, .inl ⟨x, y, hx1, hx, hy1, hy, Hv.out, rfl⟩, hbr.trans (hb2.mono hbr.size)⟩
          · have hne : (v == p) = false := by simpa using he
            go_wp2_with (first | (go_at_call 20; refine (hk _).mono ?_; rintro e w2 ⟨rfl, hb2⟩))
            go_roundw
            case rel =>
              refine ⟨y + 1, by omega, by omega, rfl, ?_, hbr.trans (hb2.mono hbr.size)⟩
              intro b h1 h2
              by_cases e : b = y
              · subst e; rw [Hv.out]; exact he
              · exact Hin.out b h1 (by omega)
            case measure => simp [intOf]; omega
        · go_wp2_with fail
          go_roundw
          case rel =>
            refine ⟨x + 1, by omega, by omega, rfl, ?_, hbr⟩
            intro l b h1 h2 h3 h4
            by_cases e : l = x
            · subst e; exact Hin.out b h3 (by omega)
            · exact Hno.out l b h1 (by omega) h3 h4
          case measure => simp [intOf]; omega
    · go_wp2_with fail
      show P (.returned (.int .i64 (-1))) _
      rw [← hP]
      exact ⟨_, rfl, .inr ⟨rfl, fun l b h1 h2 h3 h4 => Hno.out l b h1 (by omega) h3 h4⟩, hb⟩
end Go.Proofs.YtllmjlmeheohlaaDoor
