/- Contract of lrc.note; condition: at most 100,000 bytes. -/
import Derived.Test.YtllmjlmeheohlaaYJ
import Derived.Test.YtllmjlmeheohlaaLin2
set_option maxRecDepth 100000
set_option maxHeartbeats 4000000
namespace Go.Proofs.Ytllmjlmeheohlaa
open Go Go.RowKit

def smB (c : UInt8) : Bool := decide (97 ≤ c.toNat) && decide (c.toNat ≤ 122)
def nmN (l : List UInt8) : Nat := 1 + ((l.drop 1).takeWhile smB).length
def noteL (l : List UInt8) : Option (List Pc) :=
  if l.take 1 = [91] ∧ Lib.indexByte l 93 = (l.length : Int) - 1 ∧ nmN l ≠ 1 ∧ l[nmN l]? = some 58 then
    some [mk (l.take (nmN l + 1)), (false, (l.take (nmN l)).drop 1, (l.take (l.length - 1)).drop (nmN l + 1)), mk [93]]
  else none
theorem Mark_one (bk : Nat) (x : ByteArray) (w : World) (h : w.cell? ⟨bk, 0, none⟩ = some (.string x)) (hx : x.size ≤ 35184372089000) :
    Calls Try.prog 30 #[.slice (some ⟨bk, 0, none⟩) 1 1] w fun e w' => e = .returned (.agg #[.bool true, .string (B nMark), .string x]) ∧ Below w.heap.size w w' := by
  have hm := Mark_any bk 1 [x.data.toList] w (by
    intro j y hy
    cases j with
    | zero => simp at hy; subst hy; rw [← B_of]; exact h
    | succ j => simp at hy) (by simp) (by simp) (by simp; exact hx) (by simp)
  simp only [List.flatten_singleton, List.length_singleton, ← B_of] at hm
  exact hm
theorem idx_last {l : List UInt8} (hp : l.take 1 = [91]) (hi : Lib.indexByte l 93 = (l.length : Int) - 1) : 2 ≤ l.length ∧ l[l.length - 1]? = some 93 ∧ nmN l ≤ l.length - 1 := by
  have h0 : 0 < l.length := by cases l <;> simp at hp ⊢
  have hg := (idx_get 93 l (by omega)).1
  rw [hi, show ((l.length : Int) - 1).toNat = l.length - 1 by omega] at hg
  have h2 : 2 ≤ l.length := by
    by_cases h : l.length = 1
    · rw [h] at hg
      cases l with
      | nil => simp at h0
      | cons b l => simp at hp hg; rw [hp] at hg; exact absurd hg (by decide)
    · omega
  refine ⟨h2, hg, ?_⟩
  unfold nmN
  by_cases h : ((l.drop 1).takeWhile smB).length ≤ l.length - 2
  · omega
  · have hlen : (l.drop 1).length = l.length - 1 := by simp
    have := tw_in smB (l.drop 1) (l.length - 2) (by omega) (by omega)
    rw [List.getElem_drop] at this
    have e : l[1 + (l.length - 2)]'(by omega) = 93 := by
      have e1 : l[1 + (l.length - 2)]? = some 93 := by rw [show 1 + (l.length - 2) = l.length - 1 by omega]; exact hg
      rw [List.getElem?_eq_getElem (by omega)] at e1
      exact Option.some.inj e1
    rw [e] at this
    exact absurd this (by decide)
theorem sm_split (c : UInt8) : smB c = (decide ((97 : Int) ≤ c.toNat) && decide ((c.toNat : Int) ≤ 122)) := by
  unfold smB; congr 1 <;> (rw [decide_eq_decide]; omega)
theorem exB (s : ByteArray) (a b : Nat) : s.extract a b = B ((s.data.toList.take b).drop a) := by
  conv => lhs; rw [B_of s, B_ext]
theorem keepA {w : World} {a : Addr} {v : Value} (h : w.cell? a = some v) (o : Obj) : (w.alloc o).cell? a = some v := (World.cell?_alloc_lt w o a (World.block_lt_of_cell? _ _ h)).trans h
theorem keepB {w w' : World} {a : Addr} {v : Value} (h : w.cell? a = some v) (hb : Below w.heap.size w w') : w'.cell? a = some v := (hb.cell (World.block_lt_of_cell? _ _ h)).trans h
theorem newA (w : World) (v : Value) (T : TypeId) : (w.alloc (.cells #[v] T)).cell? ⟨w.heap.size, 0, none⟩ = some v := by
  rw [cell_of_row _ w.heap.size 0 _ T (0, 0) (heap_alloc_new w _)]; rfl
theorem rows3_new {α : Type} {f : α → List Value} (w : World) (T : TypeId) (l : List α) (h : l ≠ []) : Rows3 f (w.alloc (.cells (l.flatMap f).toArray T)) (.slice (some ⟨w.heap.size, 0, none⟩) l.length l.length) l := by
  refine .inr ⟨_, _, h, rfl, Nat.le_refl _, by simp, fun j u hu => ?_⟩
  rw [cell_of_row _ w.heap.size j _ T (0, 0) (heap_alloc_new w _)]
  simpa using hu
def NoRel (m : Nat) (i : Value) : Prop := ∃ k : Nat, k ≤ m ∧ i = .int .i64 ((1 + k : Nat) : Int)
theorem note_any (s : ByteArray) (hs : s.size ≤ 100000) (w : World) :
    Calls Try.prog 31 #[.string s] w (PcPost noteL s.data.toList w) := by
  generalize hP : PcPost noteL s.data.toList w = P at *
  have hlen := len_data s
  have hpf : ∀ w, Calls Try.prog 45 #[.string s, .string ⟨#[91]⟩] w fun e w' => e = .returned (.bool (Lib.hasPrefix s.data.toList [91])) ∧ w = w' := fun w => (Try.strings_HasPrefix s ⟨#[91]⟩ w).mono fun e w' h => ⟨h.1, h.2.symm⟩
  have hix : ∀ w, Calls Try.prog 46 #[.string s, .string ⟨#[93]⟩] w fun e w' => e = .returned (.int .i64 (Lib.indexByte s.data.toList 93)) ∧ w = w' := fun w => (Try.strings_Index_one s 93 w).mono fun e w' h => ⟨h.1, h.2.symm⟩
  have hno : noteL s.data.toList = none → ∀ w', Below w.heap.size w w' → P (.returned (.tuple #[.slice none 0 0, .bool false])) w' := fun h w' hb => by
    rw [← hP]
    exact ⟨_, by rw [h]; rfl, by rw [h]; exact .inl ⟨rfl, rfl⟩, hb⟩
  cases hp : Lib.hasPrefix s.data.toList [91]
  · have Hn := Lib.hid (hno (by unfold noteL; rw [if_neg (fun h => pre1_no hp h.1)]))
    rw [hp] at hpf
    clear hno hp
    go_enter Try.func31, Try.ntmps31
    go_wp2_with (go_at_call 45; refine (hpf _).mono ?_; rintro e w1 ⟨rfl, rfl⟩)
    exact Hn.out _ (Below.refl _ _)
  · rw [hp] at hpf
    have hp1 := (pre1 _ _).1 hp
    by_cases hi : Lib.indexByte s.data.toList 93 = (s.data.toList.length : Int) - 1
    · obtain ⟨g1, g2, g3⟩ := idx_last hp1 hi
      rw [hi, hlen] at hix
      rw [hlen] at g1 g2 g3
      obtain ⟨m, hm⟩ : ∃ m, m = ((s.data.toList.drop 1).takeWhile smB).length := ⟨_, rfl⟩
      have hnm : nmN s.data.toList = 1 + m := by unfold nmN; rw [hm]
      rw [hnm] at g3
      have hks : 1 + m < s.size := by omega
      have hls : s.size - 1 < s.size := by omega
      have hin : ∀ k, k < m → ∀ h : 1 + k < s.size, decide ((97 : Int) ≤ (s[1 + k]).toNat) = true ∧ decide (((s[1 + k]).toNat : Int) ≤ 122) = true := fun k hk h => by
        have := tw_in smB (s.data.toList.drop 1) k (by rw [List.length_drop, hlen]; omega) (by omega)
        rw [drop_get s 1 k (by rw [List.length_drop, hlen]; omega) h, sm_split] at this
        simpa using this
      have hout : ∀ h : 1 + m < s.size, (decide ((97 : Int) ≤ (s[1 + m]).toNat) && decide (((s[1 + m]).toNat : Int) ≤ 122)) = false := fun h => by
        have := tw_out smB (s.data.toList.drop 1) (by rw [List.length_drop, hlen, ← hm]; omega)
        have e : (s.data.toList.drop 1)[((s.data.toList.drop 1).takeWhile smB).length]'(by rw [List.length_drop, hlen, ← hm]; omega) = s[1 + m] := by
          rw [drop_get s 1 _ (by rw [List.length_drop, hlen, ← hm]; omega) (by rw [← hm]; exact h)]
          simp only [← hm]
        rw [e, sm_split] at this
        exact this
      have g58 := get_eq s (1 + m) hks 58
      have hL : noteL s.data.toList = if m ≠ 0 ∧ s[1 + m]'hks = 58 then some [mk (s.data.toList.take (1 + m + 1)), (false, (s.data.toList.take (1 + m)).drop 1, (s.data.toList.take (s.size - 1)).drop (1 + m + 1)), mk [93]] else none := by
        unfold noteL
        rw [hnm, hlen]
        by_cases hc : m ≠ 0 ∧ s[1 + m]'hks = 58
        · rw [if_pos hc, if_pos ⟨hp1, by rw [hi, hlen], by omega, g58.2 hc.2⟩]
        · rw [if_neg hc, if_neg (fun h => hc ⟨by omega, g58.1 h.2.2.2⟩)]
      have G93 := Lib.hid ((get_eq s (s.size - 1) hls 93).1 g2)
      have Hin := Lib.hid hin
      have Hout := Lib.hid (hout hks)
      have HL := Lib.hid hL
      have hne1 : ((s.size : Int) - 1 != (s.size : Int) - 1) = false := by simp
      clear hin hout hL g58 hp1 hp hi g2 hm hnm
      go_enter Try.func31, Try.ntmps31
      go_wp2_with (first | (go_at_call 45; refine (hpf _).mono ?_; rintro e w1 ⟨rfl, rfl⟩) | (go_at_call 46; refine (hix _).mono ?_; rintro e w1 ⟨rfl, rfl⟩))
      go_loop [4] (fun i => NoRel m i) (fun i => s.size - (intOf i).toNat)
      case atStart => exact ⟨0, by omega, rfl⟩
      case round =>
        obtain ⟨k, hk, rfl⟩ := hrel
        have hks2 : 1 + k < s.size := by omega
        by_cases hkm : k < m
        · obtain ⟨a1, a2⟩ := Hin.out k hkm hks2
          go_wp2_with fail
          go_round
          case rel => exact ⟨k + 1, by omega, by go_num⟩
          case measure => simp [intOf]; omega
        · have hk2 : k = m := by omega
          subst hk2
          clear hkm
          have hno2 : ¬ (k ≠ 0 ∧ s[1 + k]'hks = 58) → ∀ w', Below w.heap.size w w' → P (.returned (.tuple #[.slice none 0 0, .bool false])) w' := fun h => hno (by rw [HL.out, if_neg h])
          by_cases hgood : k ≠ 0 ∧ s[1 + k]'hks = 58
          · obtain ⟨hk0, h58⟩ := hgood
            have hA : decide ((97 : Int) ≤ (s[1 + k]).toNat) = false := by rw [h58]; rfl
            have c0 : (1 + (k : Int) == 1) = false := by rw [beq_eq_false_iff_ne]; omega
            have c58 : (((s[1 + k]).toNat : Int) != 58) = false := by rw [h58]; rfl
            have Hres := Lib.hid (show noteL s.data.toList = some [mk (s.data.toList.take (1 + k + 1)), (false, (s.data.toList.take (1 + k)).drop 1, (s.data.toList.take (s.size - 1)).drop (1 + k + 1)), mk [93]] by rw [HL.out, if_pos ⟨hk0, h58⟩])
            have hq : 1 + k + 1 < s.size := by
              by_cases e : 1 + k = s.size - 1
              · have := G93.out
                simp only [← e] at this
                rw [h58] at this
                exact absurd this (by decide)
              · omega
            clear HL hno2 h58 hno G93
            have e1 : IntKind.i64.wrap (1 + (k : Int) + 1) = 1 + (k : Int) + 1 := IntWalk.i64_in _ (by omega)
            have e2 : (1 + (k : Int) + 1).toNat = 1 + k + 1 := by omega
            have e3 : (1 + (k : Int)).toNat = 1 + k := by omega
            have e4 : IntKind.i64.wrap ((s.size : Int) - 1) = (s.size : Int) - 1 := IntWalk.i64_in _ (by omega)
            have e5 : ((s.size : Int) - 1).toNat = s.size - 1 := by omega
            have z1 : (s.extract 0 (1 + k + 1)).size ≤ 35184372089000 := by simp; omega
            have z2 : (⟨#[93]⟩ : ByteArray).size ≤ 35184372089000 := by decide
            have fin8 : ∀ (W : World), Below w.heap.size w W → P (.returned (.tuple #[.slice (some ⟨W.heap.size, 0, none⟩) 3 3, .bool true])) (W.alloc (.cells #[.bool true, .string (B nMark), .string (s.extract 0 (1 + k + 1)), .bool false, .string (s.extract 1 (1 + k)), .string (s.extract (1 + k + 1) (s.size - 1)), .bool true, .string (B nMark), .string ⟨#[93]⟩] 43)) := fun W hb => by
              rw [← hP]
              refine ⟨_, by rw [Hres.out]; rfl, ?_, hb.alloc hb.size _⟩
              rw [Hres.out, exB, exB, exB]
              exact rows3_new (f := pcV) W 43 [mk (s.data.toList.take (1 + k + 1)), (false, (s.data.toList.take (1 + k)).drop 1, (s.data.toList.take (s.size - 1)).drop (1 + k + 1)), mk [93]] (by simp)
            have hB0 : Below w.heap.size w w.drew := (Below.refl _ _).drew
            have Fin8 := Lib.hid fin8
            clear hP Hres fin8
            go_wp2_with fail
            refine wp_region_pl (fun _ => True) (.one 0 true (.one 1 true (.one 2 true (.one 3 true (.one 6 true (.one 7 true (.one 8 true (.one 9 true (.one 10 true (.one 11 true (.one 12 true (.one 13 true (.one 14 true (.one 15 true (.two 4 17 (.two 5 17 (.two 16 17 (.one 17 false (.one 18 false (.one 19 false (.one 20 true (.one 21 true .nil))))) (.one 16 false (.one 18 false (.one 19 false (.one 20 true (.one 21 true .nil)))))) (.one 5 false (.one 16 false (.one 18 false (.one 19 false (.one 20 true (.one 21 true .nil))))))) (.one 4 false (.one 5 false (.one 16 false (.one 18 false (.one 19 false (.one 20 true (.one 21 true .nil)))))))))))))))))))))) (by kernel_rfl) (by kernel_rfl) (by kernel_rfl) (Nat.le_of_ble_eq_true rfl) (fun _ _ d _ _ h => by cases d <;> exact h) trivial ?_
            generalize w.drew = W0 at *
            refine' pl_pure rfl (by rfl) _ (fun w hSw => _) _
            rotate_left
            · go_simp
              try with_reducible rfl
            try simp only [Act.put, List.setIfInBounds_toArray, List.set_cons_zero, List.set_cons_succ]
            refine' pl_pure rfl (by rfl) _ (fun w hSw => _) _
            rotate_left
            · go_simp
              try with_reducible rfl
            try simp only [Act.put, List.setIfInBounds_toArray, List.set_cons_zero, List.set_cons_succ]
            refine pl_pure rfl (by rfl) (.int .i64 (1 + (k : Int) + 1)) (fun w hSw => by go_simp; try rw [e1]) ?_
            try simp only [Act.put, List.setIfInBounds_toArray, List.set_cons_zero, List.set_cons_succ]
            refine pl_pure rfl (by rfl) (.string (s.extract 0 (1 + k + 1))) (fun w hSw => by go_simp; intro h; omega) ?_
            try simp only [Act.put, List.setIfInBounds_toArray, List.set_cons_zero, List.set_cons_succ]
            refine' pl_pure rfl (by rfl) _ (fun w hSw => _) _
            rotate_left
            · go_simp
              try with_reducible rfl
            try simp only [Act.put, List.setIfInBounds_toArray, List.set_cons_zero, List.set_cons_succ]
            refine' pl_pure rfl (by rfl) _ (fun w hSw => _) _
            rotate_left
            · go_simp
              try with_reducible rfl
            try simp only [Act.put, List.setIfInBounds_toArray, List.set_cons_zero, List.set_cons_succ]
            refine pl_pure rfl (by rfl) (.string (s.extract 1 (1 + k))) (fun w hSw => by go_simp; rw [if_pos (by omega), if_pos (by omega)]) ?_
            try simp only [Act.put, List.setIfInBounds_toArray, List.set_cons_zero, List.set_cons_succ]
            refine' pl_pure rfl (by rfl) _ (fun w hSw => _) _
            rotate_left
            · go_simp
              try with_reducible rfl
            try simp only [Act.put, List.setIfInBounds_toArray, List.set_cons_zero, List.set_cons_succ]
            refine' pl_pure rfl (by rfl) _ (fun w hSw => _) _
            rotate_left
            · go_simp
              try with_reducible rfl
            try simp only [Act.put, List.setIfInBounds_toArray, List.set_cons_zero, List.set_cons_succ]
            refine pl_pure rfl (by rfl) (.int .i64 (1 + (k : Int) + 1)) (fun w hSw => by go_simp; try rw [e1]) ?_
            try simp only [Act.put, List.setIfInBounds_toArray, List.set_cons_zero, List.set_cons_succ]
            refine' pl_pure rfl (by rfl) _ (fun w hSw => _) _
            rotate_left
            · go_simp
              try with_reducible rfl
            try simp only [Act.put, List.setIfInBounds_toArray, List.set_cons_zero, List.set_cons_succ]
            refine' pl_pure rfl (by rfl) _ (fun w hSw => _) _
            rotate_left
            · go_simp
              try with_reducible rfl
            try simp only [Act.put, List.setIfInBounds_toArray, List.set_cons_zero, List.set_cons_succ]
            refine pl_pure rfl (by rfl) (.int .i64 ((s.size : Int) - 1)) (fun w hSw => by go_simp; try rw [e4]) ?_
            try simp only [Act.put, List.setIfInBounds_toArray, List.set_cons_zero, List.set_cons_succ]
            refine pl_pure rfl (by rfl) (.string (s.extract (1 + k + 1) (s.size - 1))) (fun w hSw => by go_simp; rw [if_pos (by omega), if_pos (by omega)]) ?_
            try simp only [Act.put, List.setIfInBounds_toArray, List.set_cons_zero, List.set_cons_succ]
            refine pl_two ?_ ?_
            · refine eff_of rfl (by rfl) (fun K hK => ?_)
              go_simp
              go_wp2_with fail
              have hA_1 := newA W0 (.string (s.extract 0 (1 + k + 1))) 9
              have hB1 := hB0.alloc hB0.size (.cells #[.string (s.extract 0 (1 + k + 1))] 9)
              refine hK.out _ _ trivial ?_
              clear hK K
              try simp only [Act.put, List.setIfInBounds_toArray, List.set_cons_zero, List.set_cons_succ]
              generalize W0.alloc (.cells #[.string (s.extract 0 (1 + k + 1))] 9) = W1 at *
              refine pl_two ?_ ?_
              · refine eff_of rfl (by rfl) (fun K hK => ?_)
                go_simp
                refine (Mark_one _ (s.extract 0 (1 + k + 1)) _ hA_1 z1).mono ?_
                rintro e W2 ⟨rfl, hb2⟩
                have hA_2 := keepB hA_1 hb2
                have hB2 := hB1.trans (hb2.mono hB1.size)
                go_wp2_with fail
                refine hK.out _ _ trivial ?_
                clear hK K
                try simp only [Act.put, List.setIfInBounds_toArray, List.set_cons_zero, List.set_cons_succ]
                refine pl_two ?_ ?_
                · refine eff_of rfl (by rfl) (fun K hK => ?_)
                  go_simp
                  refine (Text_any _ _ _).mono ?_
                  rintro e W3 ⟨rfl, hb3⟩
                  have hA_3 := keepB hA_2 hb3
                  have hB3 := hB2.trans (hb3.mono hB2.size)
                  go_wp2_with fail
                  refine hK.out _ _ trivial ?_
                  clear hK K
                  try simp only [Act.put, List.setIfInBounds_toArray, List.set_cons_zero, List.set_cons_succ]
                  refine pl_eff (eff_of rfl (by rfl) (fun K hK => ?_))
                  go_simp
                  go_wp2_with fail
                  have hA_4 := keepA hA_3 (.cells #[.string ⟨#[93]⟩] 9)
                  have hZ_4 := newA W3 (.string ⟨#[93]⟩) 9
                  have hB4 := hB3.alloc hB3.size (.cells #[.string ⟨#[93]⟩] 9)
                  refine hK.out _ _ trivial ?_
                  clear hK K
                  try simp only [Act.put, List.setIfInBounds_toArray, List.set_cons_zero, List.set_cons_succ]
                  generalize W3.alloc (.cells #[.string ⟨#[93]⟩] 9) = W4 at *
                  refine pl_eff (eff_of rfl (by rfl) (fun K hK => ?_))
                  go_simp
                  refine (Mark_one _ ⟨#[93]⟩ _ hZ_4 z2).mono ?_
                  rintro e W5 ⟨rfl, hb5⟩
                  have hA_5 := keepB hA_4 hb5
                  have hZ_5 := keepB hZ_4 hb5
                  have hB5 := hB4.trans (hb5.mono hB4.size)
                  go_wp2_with fail
                  refine hK.out _ _ trivial ?_
                  clear hK K
                  try simp only [Act.put, List.setIfInBounds_toArray, List.set_cons_zero, List.set_cons_succ]
                  refine pl_eff (eff_of rfl (by rfl) (fun K hK => ?_))
                  go_simp
                  go_wp2_with fail
                  refine hK.out _ _ trivial ?_
                  clear hK K
                  try simp only [Act.put, List.setIfInBounds_toArray, List.set_cons_zero, List.set_cons_succ]
                  refine' pl_pure rfl (by rfl) _ (fun w hSw => _) _
                  rotate_left
                  · go_simp
                    try with_reducible rfl
                  try simp only [Act.put, List.setIfInBounds_toArray, List.set_cons_zero, List.set_cons_succ]
                  refine' pl_pure rfl (by rfl) _ (fun w hSw => _) _
                  rotate_left
                  · go_simp
                    try with_reducible rfl
                  try simp only [Act.put, List.setIfInBounds_toArray, List.set_cons_zero, List.set_cons_succ]
                  refine pl_nil ?_
                  go_wp2_with fail
                  exact Fin8.out W5 hB5
                · refine eff_of rfl (by rfl) (fun K hK => ?_)
                  go_simp
                  go_wp2_with fail
                  have hA_7 := keepA hA_2 (.cells #[.string ⟨#[93]⟩] 9)
                  have hZ_7 := newA W2 (.string ⟨#[93]⟩) 9
                  have hB7 := hB2.alloc hB2.size (.cells #[.string ⟨#[93]⟩] 9)
                  refine hK.out _ _ trivial ?_
                  clear hK K
                  try simp only [Act.put, List.setIfInBounds_toArray, List.set_cons_zero, List.set_cons_succ]
                  generalize W2.alloc (.cells #[.string ⟨#[93]⟩] 9) = W7 at *
                  refine pl_eff (eff_of rfl (by rfl) (fun K hK => ?_))
                  go_simp
                  refine (Text_any _ _ _).mono ?_
                  rintro e W8 ⟨rfl, hb8⟩
                  have hA_8 := keepB hA_7 hb8
                  have hZ_8 := keepB hZ_7 hb8
                  have hB8 := hB7.trans (hb8.mono hB7.size)
                  go_wp2_with fail
                  refine hK.out _ _ trivial ?_
                  clear hK K
                  try simp only [Act.put, List.setIfInBounds_toArray, List.set_cons_zero, List.set_cons_succ]
                  refine pl_eff (eff_of rfl (by rfl) (fun K hK => ?_))
                  go_simp
                  refine (Mark_one _ ⟨#[93]⟩ _ hZ_8 z2).mono ?_
                  rintro e W9 ⟨rfl, hb9⟩
                  have hA_9 := keepB hA_8 hb9
                  have hZ_9 := keepB hZ_8 hb9
                  have hB9 := hB8.trans (hb9.mono hB8.size)
                  go_wp2_with fail
                  refine hK.out _ _ trivial ?_
                  clear hK K
                  try simp only [Act.put, List.setIfInBounds_toArray, List.set_cons_zero, List.set_cons_succ]
                  refine pl_eff (eff_of rfl (by rfl) (fun K hK => ?_))
                  go_simp
                  go_wp2_with fail
                  refine hK.out _ _ trivial ?_
                  clear hK K
                  try simp only [Act.put, List.setIfInBounds_toArray, List.set_cons_zero, List.set_cons_succ]
                  refine' pl_pure rfl (by rfl) _ (fun w hSw => _) _
                  rotate_left
                  · go_simp
                    try with_reducible rfl
                  try simp only [Act.put, List.setIfInBounds_toArray, List.set_cons_zero, List.set_cons_succ]
                  refine' pl_pure rfl (by rfl) _ (fun w hSw => _) _
                  rotate_left
                  · go_simp
                    try with_reducible rfl
                  try simp only [Act.put, List.setIfInBounds_toArray, List.set_cons_zero, List.set_cons_succ]
                  refine pl_nil ?_
                  go_wp2_with fail
                  exact Fin8.out W9 hB9
              · refine eff_of rfl (by rfl) (fun K hK => ?_)
                go_simp
                go_wp2_with fail
                have hA_11 := keepA hA_1 (.cells #[.string ⟨#[93]⟩] 9)
                have hZ_11 := newA W1 (.string ⟨#[93]⟩) 9
                have hB11 := hB1.alloc hB1.size (.cells #[.string ⟨#[93]⟩] 9)
                refine hK.out _ _ trivial ?_
                clear hK K
                try simp only [Act.put, List.setIfInBounds_toArray, List.set_cons_zero, List.set_cons_succ]
                generalize W1.alloc (.cells #[.string ⟨#[93]⟩] 9) = W11 at *
                refine pl_eff (eff_of rfl (by rfl) (fun K hK => ?_))
                go_simp
                refine (Mark_one _ (s.extract 0 (1 + k + 1)) _ hA_11 z1).mono ?_
                rintro e W12 ⟨rfl, hb12⟩
                have hA_12 := keepB hA_11 hb12
                have hZ_12 := keepB hZ_11 hb12
                have hB12 := hB11.trans (hb12.mono hB11.size)
                go_wp2_with fail
                refine hK.out _ _ trivial ?_
                clear hK K
                try simp only [Act.put, List.setIfInBounds_toArray, List.set_cons_zero, List.set_cons_succ]
                refine pl_eff (eff_of rfl (by rfl) (fun K hK => ?_))
                go_simp
                refine (Text_any _ _ _).mono ?_
                rintro e W13 ⟨rfl, hb13⟩
                have hA_13 := keepB hA_12 hb13
                have hZ_13 := keepB hZ_12 hb13
                have hB13 := hB12.trans (hb13.mono hB12.size)
                go_wp2_with fail
                refine hK.out _ _ trivial ?_
                clear hK K
                try simp only [Act.put, List.setIfInBounds_toArray, List.set_cons_zero, List.set_cons_succ]
                refine pl_eff (eff_of rfl (by rfl) (fun K hK => ?_))
                go_simp
                refine (Mark_one _ ⟨#[93]⟩ _ hZ_13 z2).mono ?_
                rintro e W14 ⟨rfl, hb14⟩
                have hA_14 := keepB hA_13 hb14
                have hZ_14 := keepB hZ_13 hb14
                have hB14 := hB13.trans (hb14.mono hB13.size)
                go_wp2_with fail
                refine hK.out _ _ trivial ?_
                clear hK K
                try simp only [Act.put, List.setIfInBounds_toArray, List.set_cons_zero, List.set_cons_succ]
                refine pl_eff (eff_of rfl (by rfl) (fun K hK => ?_))
                go_simp
                go_wp2_with fail
                refine hK.out _ _ trivial ?_
                clear hK K
                try simp only [Act.put, List.setIfInBounds_toArray, List.set_cons_zero, List.set_cons_succ]
                refine' pl_pure rfl (by rfl) _ (fun w hSw => _) _
                rotate_left
                · go_simp
                  try with_reducible rfl
                try simp only [Act.put, List.setIfInBounds_toArray, List.set_cons_zero, List.set_cons_succ]
                refine' pl_pure rfl (by rfl) _ (fun w hSw => _) _
                rotate_left
                · go_simp
                  try with_reducible rfl
                try simp only [Act.put, List.setIfInBounds_toArray, List.set_cons_zero, List.set_cons_succ]
                refine pl_nil ?_
                go_wp2_with fail
                exact Fin8.out W14 hB14
            · refine eff_of rfl (by rfl) (fun K hK => ?_)
              go_simp
              go_wp2_with fail
              have hZ_16 := newA W0 (.string ⟨#[93]⟩) 9
              have hB16 := hB0.alloc hB0.size (.cells #[.string ⟨#[93]⟩] 9)
              refine hK.out _ _ trivial ?_
              clear hK K
              try simp only [Act.put, List.setIfInBounds_toArray, List.set_cons_zero, List.set_cons_succ]
              generalize W0.alloc (.cells #[.string ⟨#[93]⟩] 9) = W16 at *
              refine pl_eff (eff_of rfl (by rfl) (fun K hK => ?_))
              go_simp
              go_wp2_with fail
              have hZ_17 := keepA hZ_16 (.cells #[.string (s.extract 0 (1 + k + 1))] 9)
              have hA_17 := newA W16 (.string (s.extract 0 (1 + k + 1))) 9
              have hB17 := hB16.alloc hB16.size (.cells #[.string (s.extract 0 (1 + k + 1))] 9)
              refine hK.out _ _ trivial ?_
              clear hK K
              try simp only [Act.put, List.setIfInBounds_toArray, List.set_cons_zero, List.set_cons_succ]
              generalize W16.alloc (.cells #[.string (s.extract 0 (1 + k + 1))] 9) = W17 at *
              refine pl_eff (eff_of rfl (by rfl) (fun K hK => ?_))
              go_simp
              refine (Mark_one _ (s.extract 0 (1 + k + 1)) _ hA_17 z1).mono ?_
              rintro e W18 ⟨rfl, hb18⟩
              have hZ_18 := keepB hZ_17 hb18
              have hA_18 := keepB hA_17 hb18
              have hB18 := hB17.trans (hb18.mono hB17.size)
              go_wp2_with fail
              refine hK.out _ _ trivial ?_
              clear hK K
              try simp only [Act.put, List.setIfInBounds_toArray, List.set_cons_zero, List.set_cons_succ]
              refine pl_eff (eff_of rfl (by rfl) (fun K hK => ?_))
              go_simp
              refine (Text_any _ _ _).mono ?_
              rintro e W19 ⟨rfl, hb19⟩
              have hZ_19 := keepB hZ_18 hb19
              have hA_19 := keepB hA_18 hb19
              have hB19 := hB18.trans (hb19.mono hB18.size)
              go_wp2_with fail
              refine hK.out _ _ trivial ?_
              clear hK K
              try simp only [Act.put, List.setIfInBounds_toArray, List.set_cons_zero, List.set_cons_succ]
              refine pl_eff (eff_of rfl (by rfl) (fun K hK => ?_))
              go_simp
              refine (Mark_one _ ⟨#[93]⟩ _ hZ_19 z2).mono ?_
              rintro e W20 ⟨rfl, hb20⟩
              have hZ_20 := keepB hZ_19 hb20
              have hA_20 := keepB hA_19 hb20
              have hB20 := hB19.trans (hb20.mono hB19.size)
              go_wp2_with fail
              refine hK.out _ _ trivial ?_
              clear hK K
              try simp only [Act.put, List.setIfInBounds_toArray, List.set_cons_zero, List.set_cons_succ]
              refine pl_eff (eff_of rfl (by rfl) (fun K hK => ?_))
              go_simp
              go_wp2_with fail
              refine hK.out _ _ trivial ?_
              clear hK K
              try simp only [Act.put, List.setIfInBounds_toArray, List.set_cons_zero, List.set_cons_succ]
              refine' pl_pure rfl (by rfl) _ (fun w hSw => _) _
              rotate_left
              · go_simp
                try with_reducible rfl
              try simp only [Act.put, List.setIfInBounds_toArray, List.set_cons_zero, List.set_cons_succ]
              refine' pl_pure rfl (by rfl) _ (fun w hSw => _) _
              rotate_left
              · go_simp
                try with_reducible rfl
              try simp only [Act.put, List.setIfInBounds_toArray, List.set_cons_zero, List.set_cons_succ]
              refine pl_nil ?_
              go_wp2_with fail
              exact Fin8.out W20 hB20
          · have Hn := Lib.hid (hno2 hgood)
            clear HL hno2 hno
            cases hA : decide ((97 : Int) ≤ (s[1 + k]).toNat)
            · by_cases hk0 : k = 0
              · subst hk0
                go_wp2_with fail
                exact Hn.out _ (Below.refl _ _)
              · have c0 : (1 + (k : Int) == 1) = false := by rw [beq_eq_false_iff_ne]; omega
                have c58 : (((s[1 + k]).toNat : Int) != 58) = true := (ne_int (n := 58) (u8_ne (fun e => hgood ⟨hk0, e⟩))).1
                clear hgood
                go_wp2_with fail
                exact Hn.out _ (Below.refl _ _)
            · have hB : decide (((s[1 + k]).toNat : Int) ≤ 122) = false := by
                have := Hout.out
                rw [hA] at this
                simpa using this
              by_cases hk0 : k = 0
              · subst hk0
                go_wp2_with fail
                exact Hn.out _ (Below.refl _ _)
              · have c0 : (1 + (k : Int) == 1) = false := by rw [beq_eq_false_iff_ne]; omega
                have c58 : (((s[1 + k]).toNat : Int) != 58) = true := (ne_int (n := 58) (u8_ne (fun e => hgood ⟨hk0, e⟩))).1
                clear hgood
                go_wp2_with fail
                exact Hn.out _ (Below.refl _ _)
    · have Hn := Lib.hid (hno (by unfold noteL; rw [if_neg (fun h => hi h.2.1)]))
      have hne1 : (Lib.indexByte s.data.toList 93 != (s.size : Int) - 1) = true := by rw [← hlen]; simpa using hi
      clear hno hi hp1 hp
      generalize Lib.indexByte s.data.toList 93 = q at *
      go_enter Try.func31, Try.ntmps31
      go_wp2_with (first | (go_at_call 45; refine (hpf _).mono ?_; rintro e w1 ⟨rfl, rfl⟩) | (go_at_call 46; refine (hix _).mono ?_; rintro e w1 ⟨rfl, rfl⟩))
      exact Hn.out _ (Below.refl _ _)
end Go.Proofs.Ytllmjlmeheohlaa
