/- LrcTexts holds; no condition. -/
import Derived.Test.YtllmjlmeheohlaaYV
import Derived.Test.YtllmjlmeheohlaaLin
set_option maxRecDepth 100000
set_option maxHeartbeats 4000000
namespace Go.Proofs.Ytllmjlmeheohlaa
open Go Go.RowKit

def OneL (s : ByteArray) : Prop := ∀ x : Ln, (linesL s.data.toList)[0]? = some x → x.2.1 = []
def T1Rel (s : ByteArray) (w0 : World) (i : Value) (wr : World) : Prop := ∃ k : Nat, k ≤ s.size ∧ i = .int .i64 k ∧ (∀ j, j < k → ∀ h : j < s.size, smB s[j] = true) ∧ Below w0.heap.size w0 wr
def T2Rel (s0 s2 : ByteArray) (w0 : World) (i : Value) (wr : World) : Prop := ∃ k : Nat, k ≤ 2 ∧ i = .int .i64 k ∧ (1 ≤ k → OneL s0) ∧ (2 ≤ k → OneL s2) ∧ Below (w0.heap.size + 1) (w0.alloc (.cells #[.string s0, .string s2] 9)) wr
def T3Rel (s : ByteArray) (w0 : World) (i : Value) (wr : World) : Prop := ∃ k : Nat, k ≤ s.size ∧ i = .int .i64 k ∧ (∀ j, j < k → ∀ h : j < s.size, s[j] ≠ 93) ∧ Below w0.heap.size w0 wr
theorem RLines_nil (s : ByteArray) (hs : s.size ≤ 1000000) (h : linesL s.data.toList = []) (w : World) :
    Calls Try.prog 16 #[.string s] w fun e w' => e = .returned (.slice none 0 0) ∧ Below w.heap.size w w' := (RLines_any s hs w).mono fun e w' ⟨v, h1, h2, h3⟩ => by
  rw [h] at h2
  rcases h2 with ⟨_, rfl⟩ | ⟨_, _, h4, _⟩
  · exact ⟨h1, h3⟩
  · exact absurd rfl h4
theorem RLines_one (s : ByteArray) (hs : s.size ≤ 1000000) (x : Ln) (h : linesL s.data.toList = [x]) (w : World) :
    Calls Try.prog 16 #[.string s] w fun e w' => ∃ bk c : Nat, e = .returned (.slice (some ⟨bk, 0, none⟩) 1 c) ∧ 1 ≤ c ∧ bk < w'.heap.size ∧ w'.cell? ⟨bk, 1, none⟩ = some (.string (B x.2.1)) ∧ Below w.heap.size w w' := (RLines_any s hs w).mono fun e w' ⟨v, h1, h2, h3⟩ => by
  rw [h] at h2
  rcases h2 with ⟨h4, _⟩ | ⟨bk, c, _, rfl, h6, h7, h8⟩
  · cases h4
  · exact ⟨bk, c, h1, h6, h7, h8 1 _ rfl, h3⟩
theorem RLines_many (s : ByteArray) (hs : s.size ≤ 1000000) (x y : Ln) (l : List Ln) (h : linesL s.data.toList = x :: y :: l) (w : World) :
    Calls Try.prog 16 #[.string s] w fun e w' => ∃ bk c : Nat, e = .returned (.slice (some ⟨bk, 0, none⟩) (l.length + 2) c) ∧ Below w.heap.size w w' := (RLines_any s hs w).mono fun e w' ⟨v, h1, h2, h3⟩ => by
  rw [h] at h2
  rcases h2 with ⟨h4, _⟩ | ⟨bk, c, _, rfl, h6, h7, h8⟩
  · cases h4
  · exact ⟨bk, c, h1, h3⟩
theorem Bad0 (w : World) : Calls Try.prog 18 #[.agg #[.int .i64 0, .int .i64 0]] w fun e w' => e = .returned (.bool false) ∧ Below w.heap.size w w' := by
  go_enter Try.func18, Try.ntmps18
  go_wp2_with fail
  go_ret
  exact ⟨rfl, (Below.refl _ w).alloc (Nat.le_refl _) _⟩
theorem keepT {W w' w'' : World} {a0 a1 a2 a3 a4 a5 a6 a7 : Addr} {v0 v1 v2 v3 v4 v5 v6 v7 : Value} (h : ((w'.cell? a0 = some v0 ∧ w'.cell? a1 = some v1) ∧ (w'.cell? a2 = some v2 ∧ w'.cell? a3 = some v3 ∧ w'.cell? a4 = some v4) ∧ (w'.cell? a5 = some v5 ∧ w'.cell? a6 = some v6 ∧ w'.cell? a7 = some v7)) ∧ Below W.heap.size W w') (hb : Below w'.heap.size w' w'') :
    ((w''.cell? a0 = some v0 ∧ w''.cell? a1 = some v1) ∧ (w''.cell? a2 = some v2 ∧ w''.cell? a3 = some v3 ∧ w''.cell? a4 = some v4) ∧ (w''.cell? a5 = some v5 ∧ w''.cell? a6 = some v6 ∧ w''.cell? a7 = some v7)) ∧ Below W.heap.size W w'' :=
  ⟨⟨⟨cell_keepR h.1.1.1 hb, cell_keepR h.1.1.2 hb⟩, ⟨cell_keepR h.1.2.1.1 hb, cell_keepR h.1.2.1.2.1 hb, cell_keepR h.1.2.1.2.2 hb⟩, ⟨cell_keepR h.1.2.2.1 hb, cell_keepR h.1.2.2.2.1 hb, cell_keepR h.1.2.2.2.2 hb⟩⟩, h.2.trans (hb.mono h.2.size)⟩
theorem Parse_texts (s0 s1 s2 : ByteArray) (z0 : s0.size ≤ 200) (z1 : s1.size ≤ 50) (z2 : s2.size ≤ 200) (hp : 0 < s0.size) (hp1 : 0 < s1.size) (k0 : ¬ (s0[0].toNat : Int) = 91) (G0 : OneL s0) (G2 : OneL s2) (Hn : ∀ j, ∀ h : j < s1.size, smB s1[j] = true) (Hv : ∀ j, ∀ h : j < s2.size, s2[j] ≠ 93) (w : World) :
    Calls Try.prog 17 #[.string ({ data := #[91, 53, 57, 58, 53, 57, 46, 57, 57, 57, 93] } ++ s0 ++ { data := #[13] } ++ { data := #[91] } ++ s1 ++ { data := #[58] } ++ s2 ++ { data := #[93] })] w fun e w' => ∃ bk c : Nat, e = .returned (.tuple #[.slice (some ⟨bk, 0, none⟩) 6 c, .agg #[.int .i64 0, .int .i64 0]]) ∧ 6 ≤ c ∧ bk < w'.heap.size ∧ w'.cell? ⟨bk, 3, none⟩ = some (.bool false) ∧ w'.cell? ⟨bk, 4, none⟩ = some (.string ⟨#[116, 101, 120, 116]⟩) ∧ w'.cell? ⟨bk, 5, none⟩ = some (.string s0) ∧ w'.cell? ⟨bk, 12, none⟩ = some (.bool false) ∧ w'.cell? ⟨bk, 13, none⟩ = some (.string s1) ∧ w'.cell? ⟨bk, 14, none⟩ = some (.string s2) ∧ Below w.heap.size w w' := by
  have l0 := len_data s0
  have l1 := len_data s1
  have l2 := len_data s2
  have hd : (({ data := #[91, 53, 57, 58, 53, 57, 46, 57, 57, 57, 93] } ++ s0 ++ { data := #[13] } ++ { data := #[91] } ++ s1 ++ { data := #[58] } ++ s2 ++ { data := #[93] }) : ByteArray).data.toList = c11 ++ s0.data.toList ++ 13 :: (91 :: (s1.data.toList ++ 58 :: (s2.data.toList ++ [93]))) := by
    simp [ByteArray.data_append, c11]
  have hsz := len_data (({ data := #[91, 53, 57, 58, 53, 57, 46, 57, 57, 57, 93] } ++ s0 ++ { data := #[13] } ++ { data := #[91] } ++ s1 ++ { data := #[58] } ++ s2 ++ { data := #[93] }) : ByteArray)
  rw [hd] at hsz
  simp only [List.length_append, List.length_cons, List.length_nil, show c11.length = 11 from rfl] at hsz
  have hmem : ∀ (s : ByteArray) (c : UInt8), c ∈ s.data.toList → ∃ j, ∃ h : j < s.size, s[j] = c := fun s c hc => by
    obtain ⟨j, hj, e⟩ := List.getElem_of_mem hc
    rw [len_data] at hj
    exact ⟨j, hj, (get_eq s j hj c).1 (by rw [← e]; exact List.getElem?_eq_getElem _)⟩
  have hpl := texts_plain s0.data.toList s1.data.toList s2.data.toList (fun e => by rw [e] at l0; simp at l0; omega) (fun e => k0 (by rw [(get_eq s0 0 hp 91).1 e]; rfl)) (one_line _ G0) (fun e => by rw [e] at l1; simp at l1; omega) (fun c hc => by
    obtain ⟨j, hj, rfl⟩ := hmem s1 c hc
    exact Hn j hj) (one_line _ G2) (fun hc => by
    obtain ⟨j, hj, e⟩ := hmem s2 93 hc
    exact Hv j hj e)
  refine (Parse_any _ (by omega) w).mono ?_
  rintro e w' ⟨v, x, a, rfl, hr, hb⟩
  rw [hd, hpl] at hr
  rcases hr with ⟨ps, h, hv, _, rfl, rfl⟩ | ⟨n, h, _⟩
  · injection h with h
    subst h
    rcases hv with ⟨h, _⟩ | ⟨bk, c, _, rfl, h2, h3, h4⟩
    · simp at h
    · refine ⟨bk, c, rfl, h2, h3, h4 3 _ rfl, h4 4 _ rfl, ?_, h4 12 _ rfl, ?_, ?_, hb⟩
      · rw [h4 5 _ rfl, ← B_of]
      · rw [h4 13 _ rfl, ← B_of]
      · rw [h4 14 _ rfl, ← B_of]
  · cases h
theorem LrcTexts_law (s0 s1 s2 : ByteArray) (w : World) :
    Calls Try.prog 4 #[.string s0, .string s1, .string s2] w fun e w' => e = .returned (.bool true) ∧ Below w.heap.size w w' := by
  by_cases q0 : (200 : Int) < s0.size
  · skip
    go_enter Try.func4, Try.ntmps4
    go_wp2_with (go_at_call 9; refine (awake26 _).mono ?_; rintro e w9 ⟨rfl, hb9⟩)
    go_ret
    exact ⟨rfl, hb9⟩
  · skip
    by_cases q2 : (200 : Int) < s2.size
    · skip
      go_enter Try.func4, Try.ntmps4
      go_wp2_with (go_at_call 9; refine (awake26 _).mono ?_; rintro e w9 ⟨rfl, hb9⟩)
      go_ret
      exact ⟨rfl, hb9⟩
    · skip
      by_cases q1 : (50 : Int) < s1.size
      · skip
        go_enter Try.func4, Try.ntmps4
        go_wp2_with (go_at_call 9; refine (awake26 _).mono ?_; rintro e w9 ⟨rfl, hb9⟩)
        go_ret
        exact ⟨rfl, hb9⟩
      · skip
        by_cases e1 : s1.toList.isEmpty = true
        · skip
          go_enter Try.func4, Try.ntmps4
          go_wp2_with (go_at_call 9; refine (awake26 _).mono ?_; rintro e w9 ⟨rfl, hb9⟩)
          go_ret
          exact ⟨rfl, hb9⟩
        · skip
          by_cases e0 : s0.toList.isEmpty = true
          · skip
            go_enter Try.func4, Try.ntmps4
            go_wp2_with (go_at_call 9; refine (awake26 _).mono ?_; rintro e w9 ⟨rfl, hb9⟩)
            go_ret
            exact ⟨rfl, hb9⟩
          · skip
            replace e0 : s0.toList.isEmpty = false := by simpa using e0
            replace e1 : s1.toList.isEmpty = false := by simpa using e1
            have hp : 0 < s0.size := by
              rw [ByteArray.toList_eq] at e0
              have h9 := len_data s0
              generalize s0.data.toList = l at *
              cases l with
              | nil => cases e0
              | cons _ _ => simp at h9; omega
            have hp1 : 0 < s1.size := by
              rw [ByteArray.toList_eq] at e1
              have h9 := len_data s1
              generalize s1.data.toList = l at *
              cases l with
              | nil => cases e1
              | cons _ _ => simp at h9; omega
            by_cases k0 : (s0[0].toNat : Int) = 91
            · skip
              go_enter Try.func4, Try.ntmps4
              go_wp2_with (go_at_call 9; refine (awake26 _).mono ?_; rintro e w9 ⟨rfl, hb9⟩)
              go_ret
              exact ⟨rfl, hb9⟩
            · skip
              go_enter Try.func4, Try.ntmps4
              go_wp2_with fail
              go_loopw [43] (fun i wr => T1Rel s1 w i wr) (fun i _ => s1.size - (intOf i).toNat)
              case atStart => exact ⟨0, by omega, rfl, by intro j h; omega, Below.refl _ _⟩
              case round =>
                obtain ⟨k, hk, rfl, hin, hbr⟩ := hrel
                by_cases hlt : k < s1.size
                · by_cases a1 : (s1[k].toNat : Int) < 97
                  · clear hin
                    go_wp2_with (go_at_call 9; refine (awake26 _).mono ?_; rintro e w9 ⟨rfl, hb9⟩)
                    go_ret
                    exact ⟨rfl, bch hbr hb9⟩
                  · by_cases a2 : (122 : Int) < s1[k].toNat
                    · clear hin
                      go_wp2_with (go_at_call 9; refine (awake26 _).mono ?_; rintro e w9 ⟨rfl, hb9⟩)
                      go_ret
                      exact ⟨rfl, bch hbr hb9⟩
                    · have hs : smB s1[k] = true := by unfold smB; simp; omega
                      have Hin2 := Lib.hid (show ∀ j, j < k + 1 → ∀ h : j < s1.size, smB s1[j] = true from fun j hj h => by
                        rcases Nat.lt_or_ge j k with h1 | h1
                        · exact hin j h1 h
                        · obtain rfl : j = k := by omega
                          exact hs)
                      clear hin hs
                      go_wp2_with fail
                      go_roundw
                      case rel => exact ⟨k + 1, by omega, by simp, Hin2.out, hbr⟩
                      case measure => simp [intOf]; omega
                · have Hn := Lib.hid (show ∀ j, ∀ h : j < s1.size, smB s1[j] = true from fun j h => hin j (by omega) h)
                  clear hin
                  go_wp2_with fail
                  go_loopw [62] (fun i wr' => T2Rel s0 s2 wr i wr') (fun i _ => 2 - (intOf i).toNat)
                  case atStart => exact ⟨0, by omega, rfl, by omega, by omega, Below.refl _ _⟩
                  case round =>
                    obtain ⟨k2, hk2, hi, g0, g2, hb⟩ := hrel
                    obtain ⟨c0, c1, _, _, hz⟩ := box2 hb
                    have HB := bch hbr (below_a1 (by simpa using hb))
                    have hk3 : k2 = 0 ∨ k2 = 1 ∨ k2 = 2 := by omega
                    rcases hk3 with rfl | rfl | rfl
                    · obtain rfl := (show _ = Value.int .i64 0 from hi)
                      cases hL : linesL s0.data.toList with
                      | nil =>
                        have HO : Hid (OneL s0) := Lib.hid (fun x hx => by rw [hL] at hx; simp at hx)
                        have hrl := fun w => RLines_nil s0 (by omega) hL w
                        clear hL
                        go_wp2_with (go_at_call 16; refine (hrl _).mono ?_; rintro e w9 ⟨rfl, hb9⟩; have HB9 := hb.trans (hb9.mono (by omega)))
                        go_roundw
                        case rel => exact ⟨1, by omega, rfl, fun _ => HO.out, by omega, HB9⟩
                        case measure => simp [intOf]
                      | cons x l =>
                        cases l with
                        | nil =>
                          have hrl := fun w => RLines_one s0 (by omega) x hL w
                          by_cases hE : x.2.1 = []
                          · have HO : Hid (OneL s0) := Lib.hid (fun y hy => by rw [hL] at hy; simp at hy; subst hy; exact hE)
                            have hEi : (B x.2.1).toList.isEmpty = true := by rw [ByteArray.toList_eq, B_data, hE]; rfl
                            clear hL hE
                            go_wp2_with (go_at_call 16; refine (hrl _).mono ?_; rintro e w9 ⟨bk, c, rfl, hc, hbk, hcell, hb9⟩; have HB9 := hb.trans (hb9.mono (by omega)))
                            go_roundw
                            case rel => exact ⟨1, by omega, rfl, fun _ => HO.out, by omega, HB9⟩
                            case measure => simp [intOf]
                          · have hEi : (B x.2.1).toList.isEmpty = false := by rw [ByteArray.toList_eq, B_data]; cases h9 : x.2.1 with | nil => exact absurd h9 hE | cons _ _ => rfl
                            clear hL hE
                            go_wp2_with (first | (go_at_call 16; refine (hrl _).mono ?_; rintro e w9 ⟨bk, c, rfl, hc, hbk, hcell, hb9⟩; have HB9 := bch HB hb9) | (go_at_call 9; refine (awake26 _).mono ?_; rintro e w8 ⟨rfl, hb8⟩))
                            go_ret
                            exact ⟨rfl, bch HB9 hb8⟩
                        | cons y l =>
                          have hrl := fun w => RLines_many s0 (by omega) x y l hL w
                          clear hL
                          have hgt : (1 : Int) < l.length + 2 := by omega
                          go_wp2_with (first | (go_at_call 16; refine (hrl _).mono ?_; rintro e w9 ⟨bk, c, rfl, hb9⟩; have HB9 := bch HB hb9) | (go_at_call 9; refine (awake26 _).mono ?_; rintro e w8 ⟨rfl, hb8⟩))
                          go_ret
                          exact ⟨rfl, bch HB9 hb8⟩
                    · obtain rfl := (show _ = Value.int .i64 1 from hi)
                      cases hL : linesL s2.data.toList with
                      | nil =>
                        have HO : Hid (OneL s2) := Lib.hid (fun x hx => by rw [hL] at hx; simp at hx)
                        have hrl := fun w => RLines_nil s2 (by omega) hL w
                        clear hL
                        go_wp2_with (go_at_call 16; refine (hrl _).mono ?_; rintro e w9 ⟨rfl, hb9⟩; have HB9 := hb.trans (hb9.mono (by omega)))
                        go_roundw
                        case rel => exact ⟨2, by omega, rfl, fun _ => g0 (by omega), fun _ => HO.out, HB9⟩
                        case measure => simp [intOf]
                      | cons x l =>
                        cases l with
                        | nil =>
                          have hrl := fun w => RLines_one s2 (by omega) x hL w
                          by_cases hE : x.2.1 = []
                          · have HO : Hid (OneL s2) := Lib.hid (fun y hy => by rw [hL] at hy; simp at hy; subst hy; exact hE)
                            have hEi : (B x.2.1).toList.isEmpty = true := by rw [ByteArray.toList_eq, B_data, hE]; rfl
                            clear hL hE
                            go_wp2_with (go_at_call 16; refine (hrl _).mono ?_; rintro e w9 ⟨bk, c, rfl, hc, hbk, hcell, hb9⟩; have HB9 := hb.trans (hb9.mono (by omega)))
                            go_roundw
                            case rel => exact ⟨2, by omega, rfl, fun _ => g0 (by omega), fun _ => HO.out, HB9⟩
                            case measure => simp [intOf]
                          · have hEi : (B x.2.1).toList.isEmpty = false := by rw [ByteArray.toList_eq, B_data]; cases h9 : x.2.1 with | nil => exact absurd h9 hE | cons _ _ => rfl
                            clear hL hE
                            go_wp2_with (first | (go_at_call 16; refine (hrl _).mono ?_; rintro e w9 ⟨bk, c, rfl, hc, hbk, hcell, hb9⟩; have HB9 := bch HB hb9) | (go_at_call 9; refine (awake26 _).mono ?_; rintro e w8 ⟨rfl, hb8⟩))
                            go_ret
                            exact ⟨rfl, bch HB9 hb8⟩
                        | cons y l =>
                          have hrl := fun w => RLines_many s2 (by omega) x y l hL w
                          clear hL
                          have hgt : (1 : Int) < l.length + 2 := by omega
                          go_wp2_with (first | (go_at_call 16; refine (hrl _).mono ?_; rintro e w9 ⟨bk, c, rfl, hb9⟩; have HB9 := bch HB hb9) | (go_at_call 9; refine (awake26 _).mono ?_; rintro e w8 ⟨rfl, hb8⟩))
                          go_ret
                          exact ⟨rfl, bch HB9 hb8⟩
                    · obtain rfl := (show _ = Value.int .i64 2 from hi)
                      have G0 := Lib.hid (g0 (by omega))
                      have G2 := Lib.hid (g2 (by omega))
                      clear g0 g2 c0 c1 hb hz
                      go_wp2_with fail
                      go_loopw [87] (fun i wr' => T3Rel s2 wr i wr') (fun i _ => s2.size - (intOf i).toNat)
                      case atStart => exact ⟨0, by omega, rfl, by intro j h; omega, Below.refl _ _⟩
                      case round =>
                        obtain ⟨k3, hk3, rfl, hin, hb3⟩ := hrel
                        have HB3 := bch HB hb3
                        by_cases hlt3 : k3 < s2.size
                        · by_cases a1 : (s2[k3].toNat : Int) = 93
                          · clear hin
                            go_wp2_with (go_at_call 9; refine (awake26 _).mono ?_; rintro e w9 ⟨rfl, hb9⟩)
                            go_ret
                            exact ⟨rfl, bch HB3 hb9⟩
                          · have Hin2 := Lib.hid (show ∀ j, j < k3 + 1 → ∀ h : j < s2.size, s2[j] ≠ 93 from fun j hj h => by
                              rcases Nat.lt_or_ge j k3 with h1 | h1
                              · exact hin j h1 h
                              · obtain rfl : j = k3 := by omega
                                intro e; rw [e] at a1; exact a1 rfl)
                            clear hin
                            go_wp2_with fail
                            go_roundw
                            case rel => exact ⟨k3 + 1, by omega, by simp, Hin2.out, hb3⟩
                            case measure => simp [intOf]; omega
                        · have Hv := Lib.hid (show ∀ j, ∀ h : j < s2.size, s2[j] ≠ 93 from fun j h => hin j (by omega) h)
                          clear hin
                          go_wp2_with fail
                          refine (Parse_texts s0 s1 s2 (by omega) (by omega) (by omega) hp hp1 k0 G0.out G2.out Hn.out Hv.out _).mono ?_
                          rintro e w5 ⟨bk, c, rfl, hc, hbk, c3, c4, c5, c12, c13, c14, hb5⟩
                          have HB5 := bch HB3 hb5
                          obtain ⟨f0, f1, _, _, hz5⟩ := box2 (w := w5) (T := 39) (a := .int .i64 0) (b := .int .i64 0) (Below.refl _ _)
                          have HB6 := HB5.alloc (by have := HB5.size; omega) (.cells #[.int .i64 0, .int .i64 0] 39)
                          have d3 := (World.cell?_alloc_lt w5 (.cells #[.int .i64 0, .int .i64 0] 39) ⟨bk, 3, none⟩ hbk).trans c3
                          have d4 := (World.cell?_alloc_lt w5 (.cells #[.int .i64 0, .int .i64 0] 39) ⟨bk, 4, none⟩ hbk).trans c4
                          have d5 := (World.cell?_alloc_lt w5 (.cells #[.int .i64 0, .int .i64 0] 39) ⟨bk, 5, none⟩ hbk).trans c5
                          have d12 := (World.cell?_alloc_lt w5 (.cells #[.int .i64 0, .int .i64 0] 39) ⟨bk, 12, none⟩ hbk).trans c12
                          have d13 := (World.cell?_alloc_lt w5 (.cells #[.int .i64 0, .int .i64 0] 39) ⟨bk, 13, none⟩ hbk).trans c13
                          have d14 := (World.cell?_alloc_lt w5 (.cells #[.int .i64 0, .int .i64 0] 39) ⟨bk, 14, none⟩ hbk).trans c14
                          clear c3 c4 c5 c12 c13 c14
                          go_wp2_with fail
                          generalize hW : w5.alloc (.cells #[.int .i64 0, .int .i64 0] 39) = W at *
                          clear hW
                          have hS0 : (((W.drew.cell? ⟨w5.heap.size, 0, none⟩ = some (.int .i64 0) ∧ W.drew.cell? ⟨w5.heap.size, 1, none⟩ = some (.int .i64 0)) ∧ (W.drew.cell? ⟨bk, 3, none⟩ = some (.bool false) ∧ W.drew.cell? ⟨bk, 4, none⟩ = some (.string ⟨#[116, 101, 120, 116]⟩) ∧ W.drew.cell? ⟨bk, 5, none⟩ = some (.string s0)) ∧ (W.drew.cell? ⟨bk, 12, none⟩ = some (.bool false) ∧ W.drew.cell? ⟨bk, 13, none⟩ = some (.string s1) ∧ W.drew.cell? ⟨bk, 14, none⟩ = some (.string s2)))) ∧ Below W.heap.size W W.drew := ⟨⟨⟨f0, f1⟩, ⟨d3, d4, d5⟩, ⟨d12, d13, d14⟩⟩, (Below.refl _ _).drew⟩
                          refine wp_region_lin (fun w' => (((w'.cell? ⟨w5.heap.size, 0, none⟩ = some (.int .i64 0) ∧ w'.cell? ⟨w5.heap.size, 1, none⟩ = some (.int .i64 0)) ∧ (w'.cell? ⟨bk, 3, none⟩ = some (.bool false) ∧ w'.cell? ⟨bk, 4, none⟩ = some (.string ⟨#[116, 101, 120, 116]⟩) ∧ w'.cell? ⟨bk, 5, none⟩ = some (.string s0)) ∧ (w'.cell? ⟨bk, 12, none⟩ = some (.bool false) ∧ w'.cell? ⟨bk, 13, none⟩ = some (.string s1) ∧ w'.cell? ⟨bk, 14, none⟩ = some (.string s2)))) ∧ Below W.heap.size W w') [(0, false), (1, true), (2, true), (3, false), (4, true), (5, true), (6, true), (7, true), (8, true), (9, true), (10, true), (11, true), (12, true), (13, true), (14, true), (15, true), (16, false), (17, true), (18, true), (19, true), (20, true), (21, true), (22, true), (23, true), (24, true), (25, false), (26, true), (27, true), (28, true)] (by kernel_rfl) (by kernel_rfl) (by kernel_rfl) (Nat.le_of_ble_eq_true rfl) (fun _ _ d _ _ h => by cases d <;> exact h) hS0 ?_
                          repeat (first
                            | (refine lin_skip rfl (by rfl) ?_; try simp only [Act.put, List.setIfInBounds_toArray, List.set_cons_zero, List.set_cons_succ])
                            | (refine' lin_pure rfl (by rfl) _ (fun w hSw => _) _; rotate_left; (go_simp; try with_reducible rfl); try simp only [Act.put, List.setIfInBounds_toArray, List.set_cons_zero, List.set_cons_succ])
                            | (refine lin_eff rfl (by rfl) (fun K hK => ?_); go_simp; (first | (go_at_call 9; refine (awake26 _).mono ?_; rintro e w4 ⟨rfl, hb4⟩) | (go_at_call 18; refine (Bad0 _).mono ?_; rintro e w4 ⟨rfl, hb4⟩) | (go_at_call 19; refine (Text_any _ _ _).mono ?_; rintro e w4 ⟨rfl, hb4⟩)); go_wp2_with fail; have hS := keepT (by assumption) hb4; refine hK.out _ _ hS ?_; clear hK K; try simp only [Act.put, List.setIfInBounds_toArray, List.set_cons_zero, List.set_cons_succ]))
                          refine lin_nil ?_
                          go_wp2
                          go_ret
                          exact ⟨rfl, fin2 HB6 (by assumption)⟩
end Go.Proofs.Ytllmjlmeheohlaa
