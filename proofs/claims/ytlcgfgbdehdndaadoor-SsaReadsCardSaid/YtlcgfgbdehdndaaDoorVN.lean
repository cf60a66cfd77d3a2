/- Contract of the document's Trim (chapter 25); condition: at most 1,000,000 bytes. -/
import Derived.Test.YtlcgfgbdehdndaaDoorVM
set_option maxRecDepth 100000
set_option maxHeartbeats 2000000
namespace Go.Proofs.YtlcgfgbdehdndaaDoor
open Go Go.RowKit

theorem dw_app (p : UInt8 → Bool) : ∀ (a b : List UInt8), a.dropWhile p ≠ [] → (a ++ b).dropWhile p = a.dropWhile p ++ b
  | [], b, h => by simp at h
  | c :: a, b, h => by
    by_cases hc : p c = true
    · rw [List.cons_append, List.dropWhile_cons, if_pos hc, List.dropWhile_cons, if_pos hc]
      rw [List.dropWhile_cons, if_pos hc] at h
      exact dw_app p a b h
    · rw [List.cons_append, List.dropWhile_cons, if_neg hc, List.dropWhile_cons, if_neg hc]; rfl
theorem dw_all (p : UInt8 → Bool) : ∀ l : List UInt8, (∀ c ∈ l, p c = true) → l.dropWhile p = []
  | [], _ => rfl
  | c :: l, h => by rw [List.dropWhile_cons, if_pos (h c (by simp))]; exact dw_all p l fun d hd => h d (by simp [hd])
theorem dw_mem (p : UInt8 → Bool) : ∀ l : List UInt8, l.dropWhile p = [] → ∀ c ∈ l, p c = true
  | [], _, c, hc => by simp at hc
  | d :: l, h, c, hc => by
    by_cases hd : p d = true
    · rw [List.dropWhile_cons, if_pos hd] at h
      rcases List.mem_cons.1 hc with rfl | hc
      · exact hd
      · exact dw_mem p l h c hc
    · rw [List.dropWhile_cons, if_neg hd] at h; cases h
theorem trim_cons (l : List UInt8) : Lib.trimB (32 :: l) 32 = Lib.trimB l 32 := by
  unfold Lib.trimB Lib.trimRightB Lib.trimLeftB
  rw [List.reverse_cons]
  by_cases h : l.reverse.dropWhile (· == 32) = []
  · have h1 := dw_mem _ _ h
    rw [h, dw_all _ (l.reverse ++ [32]) (fun c hc => by
      rcases List.mem_append.1 hc with hc | hc
      · exact h1 c hc
      · simp at hc; subst hc; rfl)]
  · rw [dw_app _ _ _ h, List.reverse_append]
    simp
theorem trim_left {x : UInt8} {l : List UInt8} (hx : x ≠ 32) : Lib.trimB (x :: l) 32 = Lib.trimRightB (x :: l) 32 := by
  unfold Lib.trimB Lib.trimRightB Lib.trimLeftB
  rw [List.reverse_cons]
  have hxx : (x == 32) = false := by simpa using hx
  by_cases h : l.reverse.dropWhile (· == 32) = []
  · have h1 := dw_mem _ _ h
    have h2 : (l.reverse ++ [x]).dropWhile (· == 32) = [x] := by
      have : ∀ (a : List UInt8), (∀ c ∈ a, (c == 32) = true) → (a ++ [x]).dropWhile (· == 32) = [x] := by
        intro a
        induction a with
        | nil => intro _; simp [hxx]
        | cons c a ih =>
          intro hc
          rw [List.cons_append, List.dropWhile_cons, if_pos (hc c (by simp))]
          exact ih fun d hd => hc d (by simp [hd])
      exact this _ h1
    rw [h2]
    simp [hxx]
  · rw [dw_app _ _ _ h, List.reverse_append]
    simp [hxx]
theorem trim_nil : Lib.trimB [] 32 = Lib.trimRightB [] 32 := rfl
theorem tr_snoc (l : List UInt8) : Lib.trimRightB (l ++ [32]) 32 = Lib.trimRightB l 32 := by
  unfold Lib.trimRightB
  rw [List.reverse_append]
  simp
theorem tr_stop {l : List UInt8} {x : UInt8} (hx : x ≠ 32) : Lib.trimRightB (l ++ [x]) 32 = l ++ [x] := by
  unfold Lib.trimRightB
  have hxx : (x == 32) = false := by simpa using hx
  rw [List.reverse_append]
  simp [hxx]
def T1r (s : ByteArray) (w0 : World) (v : Value) (wr : World) : Prop := ∃ t : ByteArray, v = .string t ∧ t.size ≤ s.size ∧ Lib.trimB s.data.toList 32 = Lib.trimB t.data.toList 32 ∧ wr = w0
def T2r (s : ByteArray) (w0 : World) (v : Value) (wr : World) : Prop := ∃ t : ByteArray, v = .string t ∧ t.size ≤ s.size ∧ Lib.trimB s.data.toList 32 = Lib.trimRightB t.data.toList 32 ∧ wr = w0
theorem RTrim_any (s : ByteArray) (hs : s.size ≤ 1000000) (w : World) :
    Calls Tryd.prog 19 #[.string s] w fun e w' => e = .returned (.string (B (trmL s.data.toList))) ∧ w = w' := by
  have HP : Hid (∀ t w', B (trmL s.data.toList) = t → w = w' → (fun e w' => e = Ending.returned (.string (B (trmL s.data.toList))) ∧ w = w') (.returned (.string t)) w') := Lib.hid fun b w' h hw => by rw [h]; exact ⟨rfl, hw⟩
  generalize (fun (e : Ending) (w' : World) => e = Ending.returned (.string (B (trmL s.data.toList))) ∧ w = w') = P at *
  go_enter Tryd.func19, Tryd.ntmps19
  go_wp2_with fail
  go_loopw [0] (fun v wr => T1r s w v wr) (fun v _ => Lib.strSize v)
  case atStart => exact ⟨s, rfl, Nat.le_refl _, rfl, rfl⟩
  case round =>
    obtain ⟨t, rfl, ht, heq, rfl⟩ := hrel
    have hl0 := len_data t
    by_cases hlt : 0 < t.size
    · have hlti : (0 : Int) < t.size := by omega
      have hd : t.data.toList = t[0] :: t.data.toList.drop 1 := by have := drop_at t 0 hlt; simpa using this
      by_cases h32 : t[0] = 32
      · have e32 : ((t[0].toNat : Int) == 32) = true := by rw [h32]; rfl
        have Heq := Lib.hid (show Lib.trimB s.data.toList 32 = Lib.trimB (t.extract 1 t.size).data.toList 32 by
          rw [heq, extr, hd, h32, trim_cons]; rfl)
        have hsz : (t.extract 1 t.size).size = t.size - 1 := by simp
        clear heq hd h32
        go_wp2_with fail
        go_roundw
        case rel => exact ⟨_, rfl, by rw [hsz]; omega, Heq.out, rfl⟩
        case measure => rw [Lib.strSize_string, Lib.strSize_string, hsz]; omega
      · have e32 : ((t[0].toNat : Int) == 32) = false := by
          rw [beq_eq_false_iff_ne]
          exact fun e => h32 (UInt8.toNat_inj.1 (by show t[0].toNat = 32; omega))
        have Heq := Lib.hid (show Lib.trimB s.data.toList 32 = Lib.trimRightB t.data.toList 32 by rw [heq, hd, trim_left h32])
        clear heq hd h32
        go_wp2_with fail
        go_loopw [0] (fun v wr' => T2r s wr v wr') (fun v _ => Lib.strSize v)
        case atStart => exact ⟨t, rfl, ht, Heq.out, rfl⟩
        case round =>
          obtain ⟨u, rfl, hu, heq2, rfl⟩ := hrel
          have hlu := len_data u
          by_cases hlt2 : 0 < u.size
          · have hlti2 : (0 : Int) < u.size := by omega
            have e1 : IntKind.i64.wrap ((u.size : Int) - 1) = (u.size : Int) - 1 := IntWalk.i64_in _ (by omega)
            have e2 : ((u.size : Int) - 1).toNat = u.size - 1 := by omega
            have hn : u.size - 1 < u.size := by omega
            have hd2 : u.data.toList = u.data.toList.take (u.size - 1) ++ [u[u.size - 1]] := by
              have h1 : u.size - 1 < u.data.toList.length := by omega
              conv => lhs; rw [← List.take_append_drop (u.size - 1) u.data.toList]
              rw [List.drop_eq_getElem_cons h1, List.drop_of_length_le (by omega)]
              rfl
            by_cases h32b : u[u.size - 1] = 32
            · have e32b : ((u[u.size - 1].toNat : Int) == 32) = true := by rw [h32b]; rfl
              have hx0 : (u.extract 0 (u.size - 1)).data.toList = u.data.toList.take (u.size - 1) := by rw [ext_data, List.drop_zero]
              have Heq2 := Lib.hid (show Lib.trimB s.data.toList 32 = Lib.trimRightB (u.extract 0 (u.size - 1)).data.toList 32 by
                rw [heq2, hx0]
                conv => lhs; rw [hd2, h32b, tr_snoc])
              have hsz2 : (u.extract 0 (u.size - 1)).size = u.size - 1 := by simp
              clear heq2 hd2 h32b hx0
              go_wp2_with fail
              go_roundw
              case rel => exact ⟨_, rfl, by rw [hsz2]; omega, Heq2.out, rfl⟩
              case measure => rw [Lib.strSize_string, Lib.strSize_string, hsz2]; omega
            · have e32b : ((u[u.size - 1].toNat : Int) == 32) = false := by
                rw [beq_eq_false_iff_ne]
                exact fun e => h32b (UInt8.toNat_inj.1 (by show u[u.size - 1].toNat = 32; omega))
              have Hr := Lib.hid (show B (trmL s.data.toList) = u by unfold trmL; rw [heq2, hd2, tr_stop h32b, ← hd2, ← B_of])
              clear heq2 hd2 h32b
              go_wp2_with fail
              exact HP.out _ _ Hr.out rfl
          · have Hr := Lib.hid (show B (trmL s.data.toList) = u by
              have hu0 : u.data.toList = [] := List.eq_nil_of_length_eq_zero (by omega)
              unfold trmL; rw [heq2, hu0]; conv => rhs; rw [B_of u, hu0]
              rfl)
            clear heq2
            go_wp2_with fail
            exact HP.out _ _ Hr.out rfl
    · have Heq := Lib.hid (show Lib.trimB s.data.toList 32 = Lib.trimRightB t.data.toList 32 by
        have ht0 : t.data.toList = [] := List.eq_nil_of_length_eq_zero (by omega)
        rw [heq, ht0]; rfl)
      clear heq
      go_wp2_with fail
      go_loopw [0] (fun v wr' => T2r s wr v wr') (fun v _ => Lib.strSize v)
      case atStart => exact ⟨t, rfl, ht, Heq.out, rfl⟩
      case round =>
        obtain ⟨u, rfl, hu, heq2, rfl⟩ := hrel
        have hlu := len_data u
        by_cases hlt2 : 0 < u.size
        · have hlti2 : (0 : Int) < u.size := by omega
          have e1 : IntKind.i64.wrap ((u.size : Int) - 1) = (u.size : Int) - 1 := IntWalk.i64_in _ (by omega)
          have e2 : ((u.size : Int) - 1).toNat = u.size - 1 := by omega
          have hn : u.size - 1 < u.size := by omega
          have hd2 : u.data.toList = u.data.toList.take (u.size - 1) ++ [u[u.size - 1]] := by
            have h1 : u.size - 1 < u.data.toList.length := by omega
            conv => lhs; rw [← List.take_append_drop (u.size - 1) u.data.toList]
            rw [List.drop_eq_getElem_cons h1, List.drop_of_length_le (by omega)]
            rfl
          by_cases h32b : u[u.size - 1] = 32
          · have e32b : ((u[u.size - 1].toNat : Int) == 32) = true := by rw [h32b]; rfl
            have hx0 : (u.extract 0 (u.size - 1)).data.toList = u.data.toList.take (u.size - 1) := by rw [ext_data, List.drop_zero]
            have Heq2 := Lib.hid (show Lib.trimB s.data.toList 32 = Lib.trimRightB (u.extract 0 (u.size - 1)).data.toList 32 by
              rw [heq2, hx0]
              conv => lhs; rw [hd2, h32b, tr_snoc])
            have hsz2 : (u.extract 0 (u.size - 1)).size = u.size - 1 := by simp
            clear heq2 hd2 h32b hx0
            go_wp2_with fail
            go_roundw
            case rel => exact ⟨_, rfl, by rw [hsz2]; omega, Heq2.out, rfl⟩
            case measure => rw [Lib.strSize_string, Lib.strSize_string, hsz2]; omega
          · have e32b : ((u[u.size - 1].toNat : Int) == 32) = false := by
              rw [beq_eq_false_iff_ne]
              exact fun e => h32b (UInt8.toNat_inj.1 (by show u[u.size - 1].toNat = 32; omega))
            have Hr := Lib.hid (show B (trmL s.data.toList) = u by unfold trmL; rw [heq2, hd2, tr_stop h32b, ← hd2, ← B_of])
            clear heq2 hd2 h32b
            go_wp2_with fail
            exact HP.out _ _ Hr.out rfl
        · have Hr := Lib.hid (show B (trmL s.data.toList) = u by
            have hu0 : u.data.toList = [] := List.eq_nil_of_length_eq_zero (by omega)
            unfold trmL; rw [heq2, hu0]; conv => rhs; rw [B_of u, hu0]
            rfl)
          clear heq2
          go_wp2_with fail
          exact HP.out _ _ Hr.out rfl
end Go.Proofs.YtlcgfgbdehdndaaDoor
