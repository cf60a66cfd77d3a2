/- Contracts of wansung.other, otherCode; condition: small numbers; the cell of the library's MaxLen holds some int. -/
import Derived.Test.YtllmjlmeheohlaaDoorSQ
set_option maxRecDepth 100000
set_option maxHeartbeats 1000000
namespace Go.Proofs.YtllmjlmeheohlaaDoor
open Go Go.RowKit

theorem drop19 {k : Nat} (h : k < 19) : SPN.drop k = (spC k, spT k, spN k) :: SPN.drop (k + 1) := by
  have hl : k < SPN.length := by simpa [SPN] using h
  rw [List.drop_eq_getElem_cons hl]
  simp only [spC, spT, spN, List.getD_eq_getElem?_getD, List.getElem?_eq_getElem hl, Option.getD_some]
theorem span_step {k : Nat} (h : k < 19) (code : Int) : spanF (SPN.drop k) code = if spC k ≤ code ∧ code < spC k + spN k then spT k + (code - spC k) else spanF (SPN.drop (k + 1)) code := by
  rw [drop19 h]; rfl
theorem code_step {k : Nat} (h : k < 19) (p : Int) : spanC (SPN.drop k) p = if spT k ≤ p ∧ p - spT k < spN k then spC k + (p - spT k) else spanC (SPN.drop (k + 1)) p := by
  rw [drop19 h]; rfl
theorem sp_bd {k : Nat} (h : k < 19) : 41000 ≤ spC k ∧ spC k ≤ 65535 ∧ 1 ≤ spT k ∧ spT k ≤ 65535 ∧ 1 ≤ spN k ∧ spN k ≤ 94 ∧ spT k + spN k ≤ 65536 := by
  rcases lt19 h with rfl | rfl | rfl | rfl | rfl | rfl | rfl | rfl | rfl | rfl | rfl | rfl | rfl | rfl | rfl | rfl | rfl | rfl | rfl <;> decide +kernel
def OtRel (code : Int) (w0 : World) (bk : Nat) (i : Value) (wr : World) : Prop := ∃ k : Nat, k ≤ 19 ∧ i = .int .i64 k ∧ spanF SPN code = spanF (SPN.drop k) code ∧ SpAt wr bk ∧ Below w0.heap.size w0 wr
theorem i64_and255 {x : Int} (h0 : 0 ≤ x) (h1 : x ≤ 65535) : bits .and .i64 x 255 = x % 256 :=
  bits_mask .i64 63 (by decide) (fun n h0 h1 => by simp [IntKind.wrap, IntKind.bits, IntKind.signed]; omega) 8 (by decide) x h0 (by omega)
theorem Other_span (code lead b : Int) (hcb : 0 ≤ code ∧ code ≤ 65535) (e1 : bits .and .i64 code 255 = b) (e2 : code / 256 = lead) (hb : 161 ≤ b ∧ b ≤ 254) (h1 : lead ≠ 161) (h2 : lead ≠ 162) (h6 : lead ≠ 166) (w : World) :
    Calls Tryd.prog 41 #[.int .i64 code] w fun e w' => e = .returned (.tuple #[.int .i32 (spanF SPN code), .bool (decide (spanF SPN code ≠ 0))]) ∧ Below w.heap.size w w' := by
  have hli := fun w => Listed_any lead (by omega) w
  rw [wB_other h1 h2 h6] at hli
  unfold nilB at hli
  obtain ⟨b0, b1⟩ := hb
  have d1 : decide (b < 161) = false := by simp; omega
  have d2 : decide ((254 : Int) < b) = false := by simp; omega
  go_enter Tryd.func41, Tryd.ntmps41
  go_wp2_with (first | (go_at_call 42; refine (hli _).mono ?_; rintro e w1 ⟨rfl, hb1⟩) | (go_at_call 44; refine (Spans_any _).mono ?_; rintro e w2 ⟨bk, rfl, hS, hb2⟩))
  have hB2 := hb1.trans (hb2.mono hb1.size)
  clear hli e1 e2 d1 d2 h1 h2 h6 hb1 hb2
  go_loopw [33] (fun i wr => OtRel code w bk i wr) (fun i _ => 19 - (intOf i).toNat)
  case atStart => exact ⟨0, by omega, rfl, rfl, hS, hB2⟩
  case round =>
    obtain ⟨k, hk, rfl, heq, hSr, hbr⟩ := hrel
    by_cases hk19 : k < 19
    · have hstep := Lib.hid (span_step hk19 code)
      obtain ⟨c0, c1, c2⟩ := hSr k hk19
      have hbd := sp_bd hk19
      generalize spC k = C at *
      generalize spT k = T at *
      generalize spN k = M at *
      by_cases hC : C ≤ code
      · by_cases hM : code < C + M
        · have hval := Lib.hid (show spanF SPN code = T + (code - C) by rw [heq, hstep.out, if_pos ⟨hC, hM⟩])
          clear heq hstep
          go_wp2_with fail
          go_ret2
          refine ⟨?_, hbr.alloc hbr.size _⟩
          have hne : T + (code - C) ≠ 0 := by omega
          show Ending.returned (.tuple #[.int .i32 (T + (code - C)), .bool true]) = _
          rw [hval.out, decide_eq_true hne]
        · have hd : decide (code < C + M) = false := by simpa using hM
          have hval := Lib.hid (show spanF SPN code = spanF (SPN.drop (k + 1)) code by rw [heq, hstep.out, if_neg (fun h => hM h.2)])
          clear heq hstep
          go_wp2_with fail
          go_roundw
          case rel => exact ⟨k + 1, by omega, by go_num, hval.out, SpAt.keep hSr ((Below.refl _ _).alloc (Nat.le_refl _) _) (Nat.le_refl _), hbr.alloc hbr.size _⟩
          case measure => simp [intOf]; omega
      · have hd : decide (C ≤ code) = false := by simpa using hC
        have hval := Lib.hid (show spanF SPN code = spanF (SPN.drop (k + 1)) code by rw [heq, hstep.out, if_neg (fun h => hC h.1)])
        clear heq hstep
        go_wp2_with fail
        go_roundw
        case rel => exact ⟨k + 1, by omega, by go_num, hval.out, SpAt.keep hSr ((Below.refl _ _).alloc (Nat.le_refl _) _) (Nat.le_refl _), hbr.alloc hbr.size _⟩
        case measure => simp [intOf]; omega
    · have hk2 : k = 19 := by omega
      subst hk2
      have hend := Lib.hid (show spanF SPN code = 0 by rw [heq]; rfl)
      clear hk19 heq
      go_wp2_with fail
      go_ret2
      rw [hend.out]
      exact ⟨rfl, hbr⟩
theorem Other_low (code : Int) (hcb : 0 ≤ code ∧ code ≤ 65535) (hb : code % 256 < 161 ∨ 254 < code % 256) (w : World) :
    Calls Tryd.prog 41 #[.int .i64 code] w fun e w' => e = .returned (.tuple #[.int .i32 0, .bool false]) ∧ Below w.heap.size w w' := by
  have e1 := i64_and255 hcb.1 hcb.2
  generalize code % 256 = b at *
  rcases hb with hb | hb
  · have d1 : decide (b < 161) = true := by simpa using hb
    go_enter Tryd.func41, Tryd.ntmps41
    go_wp2_with fail
    go_ret2
    exact ⟨rfl, Below.refl _ _⟩
  · have d1 : decide (b < 161) = false := by simp; omega
    have d2 : decide ((254 : Int) < b) = true := by simpa using hb
    go_enter Tryd.func41, Tryd.ntmps41
    go_wp2_with fail
    go_ret2
    exact ⟨rfl, Below.refl _ _⟩
theorem WAt_any (s : ByteArray) (ps : List Int) (h : Hex s ps) (k : Int) (hs : s.size ≤ 100000) (hkb : -100000 ≤ k ∧ k ≤ 100000) (w : World) :
    Calls Tryd.prog 49 #[.string s, .int .i64 k] w fun e w' => e = .returned (.tuple #[.int .i32 (if 0 ≤ k ∧ k < ps.length then ps.getD k.toNat 0 else 0), .bool (decide (0 ≤ k ∧ k < ps.length))]) ∧ Below w.heap.size w w' := by
  by_cases hk : 0 ≤ k ∧ k < ps.length
  · have := At_in s ps h k.toNat (by omega) hs w
    have e : ((k.toNat : Nat) : Int) = k := by omega
    rw [e] at this
    simp only [hk, and_self, if_true, decide_true]
    exact this
  · have := At_out s ps h k (by omega) hs hkb w
    simp only [if_neg hk, decide_eq_false hk]
    exact this
theorem pos_list (l : Int) : ∀ p ∈ listW l, 0 < p ∧ p ≤ 65535 := by
  intro p hp
  have h := List.all_eq_true.1 pos_chk p
  simp only [Bool.and_eq_true, decide_eq_true_eq] at h
  refine h ?_
  unfold listW at hp
  simp only [List.mem_append]
  split at hp
  · exact .inl (.inl hp)
  · split at hp
    · exact .inl (.inr hp)
    · split at hp
      · exact .inr hp
      · cases hp
theorem len_list (l : Int) : (listW l).length ≤ 94 := by
  obtain ⟨a, b, c⟩ := len_chk
  unfold listW
  split
  · omega
  · split
    · omega
    · split
      · omega
      · simp
theorem hex_list (l : Int) : Hex (wB l) (listW l) ∧ (wB l).size ≤ 100000 := by
  have hx : Hex (wB l) (listW l) := ⟨by simp [wB], fun p hp => by have := pos_list l p hp; omega⟩
  refine ⟨hx, ?_⟩
  have := len_list l
  rw [hx.size]; omega
theorem full_list (l : Int) (h : l = 161 ∨ l = 162 ∨ l = 166) : (listW l).isEmpty = false ∧ 0 < (listW l).length := by
  rcases h with rfl | rfl | rfl <;> decide +kernel
theorem ne_nil {s : ByteArray} (h : 0 < s.size) : s.toList.isEmpty = false := by
  rw [ByteArray.toList_eq]
  have hl : s.data.toList.length = s.size := by simp
  generalize s.data.toList = l at *
  match l, hl with
  | [], hl => simp at hl; omega
  | _ :: _, _ => rfl
theorem Other_list (code lead b : Int) (hcb : 0 ≤ code ∧ code ≤ 65535) (hcd : code = lead * 256 + b) (hb : 161 ≤ b ∧ b ≤ 254) (hl : lead = 161 ∨ lead = 162 ∨ lead = 166) (w : World) :
    Calls Tryd.prog 41 #[.int .i64 code] w fun e w' => e = .returned (.tuple #[.int .i32 ((listW lead).getD (b - 161).toNat 0), .bool (decide ((listW lead).getD (b - 161).toNat 0 ≠ 0))]) ∧ Below w.heap.size w w' := by
  have e1 := i64_and255 hcb.1 hcb.2
  have e2 : code / 256 = lead := by omega
  have e3 : code % 256 = b := by omega
  have e4 : code - (lead * 256 + 161) = b - 161 := by omega
  rw [e3] at e1
  have hli := fun w => Listed_any lead (by omega) w
  obtain ⟨hx, hsz⟩ := hex_list lead
  have hat := fun w => WAt_any (wB lead) (listW lead) hx (b - 161) hsz (by omega) w
  have hne := ne_nil (s := wB lead) (by have := (full_list lead hl).2; rw [hx.size]; omega)
  have hval : (if 0 ≤ b - 161 ∧ b - 161 < (listW lead).length then (listW lead).getD (b - 161).toNat 0 else 0) = (listW lead).getD (b - 161).toNat 0 ∧ decide (0 ≤ b - 161 ∧ b - 161 < (listW lead).length) = decide ((listW lead).getD (b - 161).toNat 0 ≠ 0) := by
    by_cases hin : b - 161 < (listW lead).length
    · have := pos_list lead _ (getD_mem (ps := listW lead) (k := (b - 161).toNat) (by omega))
      refine ⟨if_pos ⟨by omega, hin⟩, ?_⟩
      rw [decide_eq_true (⟨by omega, hin⟩ : 0 ≤ b - 161 ∧ b - 161 < (listW lead).length), decide_eq_true (by omega)]
    · have h0 : (listW lead).getD (b - 161).toNat 0 = 0 := by
        rw [List.getD_eq_getElem?_getD, List.getElem?_eq_none (by omega)]; rfl
      rw [h0]
      refine ⟨if_neg (fun h => hin h.2), ?_⟩
      rw [decide_eq_false (fun h => hin h.2)]; rfl
  rw [hval.1, hval.2] at hat
  clear hval hx hsz e3
  generalize wB lead = s at *
  generalize decide ((listW lead).getD (b - 161).toNat 0 ≠ 0) = ok at *
  generalize (listW lead).getD (b - 161).toNat 0 = v at *
  obtain ⟨b0, b1⟩ := hb
  have d1 : decide (b < 161) = false := by simp; omega
  have d2 : decide ((254 : Int) < b) = false := by simp; omega
  clear hcd hl
  go_enter Tryd.func41, Tryd.ntmps41
  go_wp2_with (first | (go_at_call 42; refine (hli _).mono ?_; rintro e w1 ⟨rfl, hb1⟩) | (go_at_call 49; refine (hat _).mono ?_; rintro e w2 ⟨rfl, hb2⟩))
  go_ret2
  exact ⟨rfl, hb1.trans (hb2.mono hb1.size)⟩
/-- other, for every code of two bytes. -/
theorem Other_any (lead b : Int) (hl : 0 ≤ lead ∧ lead ≤ 255) (hb : 0 ≤ b ∧ b ≤ 255) (w : World) :
    Calls Tryd.prog 41 #[.int .i64 (lead * 256 + b)] w fun e w' => e = .returned (.tuple #[.int .i32 (otherZ lead b), .bool (decide (otherZ lead b ≠ 0))]) ∧ Below w.heap.size w w' := by
  unfold otherZ
  by_cases hlo : b < 161 ∨ 254 < b
  · rw [if_pos hlo]
    exact Other_low _ (by omega) (by omega) w
  · rw [if_neg hlo]
    by_cases h : lead = 161 ∨ lead = 162 ∨ lead = 166
    · rw [(full_list lead h).1]
      exact Other_list _ lead b (by omega) rfl (by omega) h w
    · have e : (listW lead).isEmpty = true := by
        unfold listW
        rw [if_neg (fun e => h (.inl e)), if_neg (fun e => h (.inr (.inl e))), if_neg (fun e => h (.inr (.inr e)))]
        rfl
      rw [e]
      have e1 := i64_and255 (x := lead * 256 + b) (by omega) (by omega)
      rw [show (lead * 256 + b) % 256 = b by omega] at e1
      exact Other_span _ lead b (by omega) e1 (by omega) (by omega) (fun e => h (.inl e)) (fun e => h (.inr (.inl e))) (fun e => h (.inr (.inr e))) w
end Go.Proofs.YtllmjlmeheohlaaDoor
