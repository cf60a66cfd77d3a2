/- Contract of wansung.otherCode; condition: the cell of the library's MaxLen holds some int. -/
import Derived.Test.YtllmjlmeheohlaaDoorSQ2
set_option maxRecDepth 100000
set_option maxHeartbeats 1000000
namespace Go.Proofs.YtllmjlmeheohlaaDoor
open Go Go.RowKit

def ML (w : World) : Prop := ∃ m : Int, w.cell? ⟨1, 0, none⟩ = some (.int .i64 m)
theorem ML_below {w w' : World} {B : Nat} (h : ML w) (hb : Below B w w') (hB : w.heap.size ≤ B) : ML w' := by
  obtain ⟨m, hm⟩ := h
  exact ⟨m, (hb.cell (p := ⟨_, 0, none⟩) (Nat.lt_of_lt_of_le (World.block_lt_of_cell? _ _ hm) hB)).trans hm⟩
theorem WFind_any (l p : Int) (w : World) (hm : ML w) :
    Calls Tryd.prog 43 #[.string (wB l), .int .i32 p] w fun e w' => e = .returned (.int .i64 (findZ (listW l) p)) ∧ Below w.heap.size w w' := by
  obtain ⟨m, hm⟩ := hm
  obtain ⟨hx, hsz⟩ := hex_list l
  exact Find_any (wB l) (listW l) hx p hsz w m hm
theorem findZ_eq (l p : Int) : findZ (listW l) p = fnd (listW l) p := by
  unfold findZ
  split
  · rename_i h
    symm
    rw [fnd_none]
    intro hp
    have := pos_list l p hp
    omega
  · rfl
def listC (p : Int) : Nat → Int → Int
  | 0, _ => spanC SPN p
  | n + 1, l => if 0 ≤ fnd (listW l) p then l * 256 + 161 + fnd (listW l) p else listC p n (l + 1)
theorem codeW_eq (p : Int) : codeW p = listC p 6 161 := by
  have e : ∀ l : Int, l = 163 ∨ l = 164 ∨ l = 165 → ¬ 0 ≤ fnd (listW l) p := by
    rintro l (rfl | rfl | rfl) <;> simp [listW, fnd]
  unfold codeW
  simp only [listC]
  rw [if_neg (e (161 + 1 + 1) (.inl rfl)), if_neg (e (161 + 1 + 1 + 1) (.inr (.inl rfl))), if_neg (e (161 + 1 + 1 + 1 + 1) (.inr (.inr rfl)))]
  rfl
def OcRel (p : Int) (w0 : World) (l : Value) (wr : World) : Prop := ∃ k : Nat, k ≤ 6 ∧ l = .int .i64 (161 + (k : Int)) ∧ codeW p = listC p (6 - k) (161 + (k : Int)) ∧ Below w0.heap.size w0 wr
def OsRel (p : Int) (w0 : World) (bk : Nat) (i : Value) (wr : World) : Prop := ∃ k : Nat, k ≤ 19 ∧ i = .int .i64 k ∧ codeW p = spanC (SPN.drop k) p ∧ SpAt wr bk ∧ Below w0.heap.size w0 wr
def OcPost (p : Int) (w0 : World) (e : Ending) (w' : World) : Prop := e = .returned (.tuple #[.int .i64 (if 0 ≤ codeW p then codeW p else 0), .bool (decide (0 ≤ codeW p))]) ∧ Below w0.heap.size w0 w'
theorem OtherCode_any (p : Int) (hp : -2147483648 ≤ p ∧ p ≤ 2147483647) (w : World) (hm : ML w) :
    Calls Tryd.prog 30 #[.int .i32 p] w (OcPost p w) := by
  obtain ⟨p0, p1⟩ := hp
  generalize hP : OcPost p w = P at *
  go_enter Tryd.func30, Tryd.ntmps30
  go_wp2_with fail
  go_loopw [4] (fun l wr => OcRel p w l wr) (fun l _ => 167 - (intOf l).toNat)
  case atStart => exact ⟨0, by omega, rfl, codeW_eq p, Below.refl _ _⟩
  case round =>
    obtain ⟨k, hk, rfl, heq, hb⟩ := hrel
    by_cases hk6 : k < 6
    · have hli := fun w => Listed_any (161 + (k : Int)) (by omega) w
      have hfi := fun w => WFind_any (161 + (k : Int)) p w
      have hge := fnd_ge (listW (161 + (k : Int))) p
      have hlt := fnd_lt (listW (161 + (k : Int))) p
      have hll := len_list (161 + (k : Int))
      have hstep : listC p (6 - k) (161 + (k : Int)) = if 0 ≤ fnd (listW (161 + (k : Int))) p then (161 + (k : Int)) * 256 + 161 + fnd (listW (161 + (k : Int))) p else listC p (6 - (k + 1)) (161 + ((k + 1 : Nat) : Int)) := by
        rw [show 6 - k = 6 - (k + 1) + 1 by omega, show (161 : Int) + ((k + 1 : Nat) : Int) = 161 + (k : Int) + 1 by omega]
        rfl
      simp only [findZ_eq] at hfi
      have Hs := Lib.hid (heq.trans hstep)
      clear heq hstep
      generalize fnd (listW (161 + (k : Int))) p = f at *
      have hlen : f < 94 := by omega
      clear hlt hll
      by_cases hf : 0 ≤ f
      · have hval := Lib.hid (show codeW p = (161 + (k : Int)) * 256 + 161 + f by rw [Hs.out, if_pos hf])
        clear Hs
        go_wp2_with (first | (go_at_call 42; refine (hli _).mono ?_; rintro e w1 ⟨rfl, hb1⟩) | (go_at_call 43; refine (hfi _ (ML_below hm (hb.trans (hb1.mono hb.size)) (Nat.le_refl _))).mono ?_; rintro e w2 ⟨rfl, hb2⟩))
        show P (.returned (.tuple #[.int .i64 ((161 + (k : Int)) * 256 + 161 + f), .bool true])) w2
        rw [← hP]
        refine ⟨?_, (hb.trans (hb1.mono hb.size)).trans (hb2.mono (Nat.le_trans hb.size hb1.size))⟩
        show Ending.returned (.tuple #[.int .i64 ((161 + (k : Int)) * 256 + 161 + f), .bool true]) = _
        have h0 : 0 ≤ (161 + (k : Int)) * 256 + 161 + f := by omega
        rw [hval.out, if_pos h0, decide_eq_true h0]
      · have hval := Lib.hid (show codeW p = listC p (6 - (k + 1)) (161 + ((k + 1 : Nat) : Int)) by rw [Hs.out, if_neg hf])
        clear Hs
        go_wp2_with (first | (go_at_call 42; refine (hli _).mono ?_; rintro e w1 ⟨rfl, hb1⟩) | (go_at_call 43; refine (hfi _ (ML_below hm (hb.trans (hb1.mono hb.size)) (Nat.le_refl _))).mono ?_; rintro e w2 ⟨rfl, hb2⟩))
        go_roundw
        case rel => exact ⟨k + 1, by omega, by congr 1, hval.out, (hb.trans (hb1.mono hb.size)).trans (hb2.mono (Nat.le_trans hb.size hb1.size))⟩
        case measure => simp [intOf]; omega
    · have hk2 : k = 6 := by omega
      subst hk2
      have heq2 : codeW p = spanC SPN p := heq
      have Heq := Lib.hid heq2
      clear heq heq2 hk6 hk
      go_wp2_with (first | (go_at_call 44; refine (Spans_any _).mono ?_; rintro e w2 ⟨bk, rfl, hS, hb2⟩))
      have hB2 := hb.trans (hb2.mono hb.size)
      clear hb hb2
      go_loopw [29] (fun i wr => OsRel p w bk i wr) (fun i _ => 19 - (intOf i).toNat)
      case atStart => exact ⟨0, by omega, rfl, Heq.out, hS, hB2⟩
      case round =>
        obtain ⟨k, hk, rfl, heq, hSr, hbr⟩ := hrel
        by_cases hk19 : k < 19
        · have hstep := Lib.hid (code_step hk19 p)
          obtain ⟨c0, c1, c2⟩ := hSr k hk19
          have hbd := sp_bd hk19
          generalize spC k = C at *
          generalize spT k = T at *
          generalize spN k = M at *
          by_cases hC : T ≤ p
          · by_cases hM : p - T < M
            · have hval := Lib.hid (show codeW p = C + (p - T) by rw [heq, hstep.out, if_pos ⟨hC, hM⟩])
              clear heq hstep Heq
              go_wp2_with fail
              show P (.returned (.tuple #[.int .i64 (C + (p - T)), .bool true])) _
              rw [← hP]
              refine ⟨?_, hbr.alloc hbr.size _⟩
              have h0 : 0 ≤ C + (p - T) := by omega
              show Ending.returned (.tuple #[.int .i64 (C + (p - T)), .bool true]) = _
              rw [hval.out, if_pos h0, decide_eq_true h0]
            · have hd : decide (p - T < M) = false := by simpa using hM
              have hval := Lib.hid (show codeW p = spanC (SPN.drop (k + 1)) p by rw [heq, hstep.out, if_neg (fun h => hM h.2)])
              clear heq hstep Heq
              go_wp2_with fail
              go_roundw
              case rel => exact ⟨k + 1, by omega, by go_num, hval.out, SpAt.keep hSr ((Below.refl _ _).alloc (Nat.le_refl _) _) (Nat.le_refl _), hbr.alloc hbr.size _⟩
              case measure => simp [intOf]; omega
          · have hd : decide (T ≤ p) = false := by simpa using hC
            have hval := Lib.hid (show codeW p = spanC (SPN.drop (k + 1)) p by rw [heq, hstep.out, if_neg (fun h => hC h.1)])
            clear heq hstep Heq
            go_wp2_with fail
            go_roundw
            case rel => exact ⟨k + 1, by omega, by go_num, hval.out, SpAt.keep hSr ((Below.refl _ _).alloc (Nat.le_refl _) _) (Nat.le_refl _), hbr.alloc hbr.size _⟩
            case measure => simp [intOf]; omega
        · have hk2 : k = 19 := by omega
          subst hk2
          have hend := Lib.hid (show codeW p = -1 by rw [heq]; rfl)
          clear hk19 heq Heq
          go_wp2_with fail
          show P (.returned (.tuple #[.int .i64 0, .bool false])) _
          rw [← hP]
          refine ⟨?_, hbr⟩
          show Ending.returned (.tuple #[.int .i64 0, .bool false]) = _
          rw [hend.out]
          rfl
end Go.Proofs.YtllmjlmeheohlaaDoor
