/- Contracts: single.signs, table, plain: the program's tables of chapter 5. -/
import Derived.Test.YtpnjandlpbjddabDoorKA
import Derived.Test.YtpnjandlpbjddabDoorRV
import Derived.Test.YtpnjandlpbjddabDoorP3
import Derived.Lib.EndianBits
set_option maxRecDepth 100000
set_option maxHeartbeats 4000000
namespace Go.Proofs.YtpnjandlpbjddabDoor
open Go Go.RowKit

theorem hexD_ix {c : UInt8} (h : 0 ≤ hexD c) : Lib.indexByte [48, 49, 50, 51, 52, 53, 54, 55, 56, 57, 65, 66, 67, 68, 69, 70] c = hexD c := by
  have h2 : ∀ n : Fin 256, 0 ≤ hexD (UInt8.ofNat n.1) → Lib.indexByte [48, 49, 50, 51, 52, 53, 54, 55, 56, 57, 65, 66, 67, 68, 69, 70] (UInt8.ofNat n.1) = hexD (UInt8.ofNat n.1) := by decide +kernel
  have h3 := h2 ⟨c.toNat, c.toNat_lt⟩
  rw [show UInt8.ofNat c.toNat = c by simp] at h3
  exact h3 h
def HxRel (s4 : ByteArray) (ps : List Int) (W0 : World) (K : Nat) (v : Value) (wr : World) : Prop :=
  ∃ k i : Nat, Run ps k i ∧ wr.heap[K]? = some (.stringIter s4 i) ∧ (∃ V : Int, v = .int .i32 V ∧ (ps.take k).foldl (fun p c => p * 16 + hexD c.toNat.toUInt8) 0 = V ∧ 0 ≤ V ∧ V < 16 ^ k) ∧ Below K W0 wr
def SiRel (l : List UInt8) (w0 : World) (v0 v3 : Value) (wr : World) : Prop :=
  ∃ (k : Nat) (s : ByteArray), 5 * k ≤ l.length ∧ v0 = .string s ∧ s.data.toList = l.drop (5 * k) ∧ wr.ownsRow w0.heap.size 5 1 v3 (textZ ((hexG l).take k)).length ((textZ ((hexG l).take k)).map (Value.int .u8)) ∧ Below w0.heap.size w0 wr
theorem ext_list (s : ByteArray) (a b : Nat) : (s.extract a b).data.toList = (s.data.toList.take b).drop a := by
  rw [List.drop_take]; simp
theorem i32_or4 {x y : Int} (hy₀ : 0 ≤ y) (hy : y < 16) (hx₀ : 0 ≤ x) (hx : x < 134217728) : bits .or .i32 (x * 16) y = x * 16 + y :=
  bits_join .i32 31 (by decide) (fun n h0 h1 => by simp [IntKind.wrap, IntKind.bits, IntKind.signed]; omega) 4 (x * 16) y (by omega) (by omega) (by omega) hy₀ hy (by omega)
theorem Signs_any (s : ByteArray) (hs : s.size ≤ 100000) (hok : hexOkG s.data.toList = true) (w : World) :
    Calls Tryd.prog 35 #[.string s] w fun e w' => e = .returned (.string (tB (hexG s.data.toList))) ∧ Below w.heap.size w w' := by
  have hl0 : s.data.toList.length = s.size := by simp
  have HP : Hid (∀ w', Below w.heap.size w w' → (fun e w' => e = Ending.returned (.string (tB (hexG s.data.toList))) ∧ Below w.heap.size w w') (.returned (.string (tB (hexG s.data.toList)))) w') := Lib.hid fun w' hb => ⟨rfl, hb⟩
  generalize (fun (e : Ending) (w' : World) => e = Ending.returned (.string (tB (hexG s.data.toList))) ∧ Below w.heap.size w w') = P at *
  have Hok := Lib.hid hok
  clear hok
  go_enter Tryd.func35, Tryd.ntmps35
  go_wp2_with fail
  go_loopw [0, 3] (fun v0 v3 wr => SiRel s.data.toList w v0 v3 wr) (fun v0 _ _ => match v0 with | .string t => t.size | _ => 0)
  case atStart => exact ⟨0, s, by omega, rfl, rfl, ⟨rfl, .inl ⟨rfl, rfl⟩⟩, Below.refl _ _⟩
  case round =>
    obtain ⟨k0, t, hk, rfl, ht, hown, hb⟩ := hrel
    have htl : t.data.toList.length = t.size := by simp
    obtain ⟨wo, rfl⟩ : ∃ wo : World, wo = wr := ⟨_, rfl⟩
    by_cases h5 : 5 ≤ t.size
    · obtain ⟨a, b, c, d, e, r, hd⟩ := five_cases t.data.toList (by omega)
      have ho := hexOk_drop k0 _ hk Hok.out
      rw [← ht, hd] at ho
      unfold hexOkG at ho
      simp only [Bool.and_eq_true, List.all_cons, List.all_nil, decide_eq_true_eq, and_true] at ho
      obtain ⟨⟨⟨ha, hb', hc, hd'⟩, hsc⟩, _⟩ := ho
      obtain ⟨htk, hdr⟩ := hexG_take hk (ht.symm.trans hd)
      have h4 : (t.extract 0 4).data.toList = [a, b, c, d] := by rw [ext_list, hd]; rfl
      have hz4 : (t.extract 0 4).size = 4 := by simp; omega
      obtain ⟨hg1, hg2⟩ := good_asc [a, b, c, d] (fun x hx => by
        simp only [List.mem_cons, List.not_mem_nil, or_false] at hx
        rcases hx with rfl | rfl | rfl | rfl
        · exact (hexD_rng ha).1
        · exact (hexD_rng hb').1
        · exact (hexD_rng hc).1
        · exact (hexD_rng hd').1)
      have hg : Good (t.extract 0 4) ([a, b, c, d].map fun c : UInt8 => (c.toNat : Int)) := ⟨h4.trans hg1.symm, hg2⟩
      have hp4 := hg.pre
      have h5b : decide ((5 : Int) ≤ t.size) = true := by simp; omega
      have hit := World.iter_heap wo (t.extract 0 4) 0
      go_wp2_with fail
      go_loopw [4] (fun v4 wx => HxRel (t.extract 0 4) ([a, b, c, d].map fun c : UInt8 => (c.toNat : Int)) wo wo.heap.size v4 wx) (fun _ wx => 5 - wx.iterPos wo.heap.size)
      case atStart => exact ⟨0, 0, Run.zero _, hit, ⟨0, rfl, rfl, by decide, by decide⟩, (Below.refl _ _).alloc (Nat.le_refl _) _⟩
      case round =>
        obtain ⟨k, i, hrun, hK, ⟨V, rfl, hV, hV0, hV1⟩, hbk⟩ := hrel
        have HV := Lib.hid hV
        clear hV
        have hlen4 : ([a, b, c, d].map fun c : UInt8 => (c.toNat : Int)).length = 4 := rfl
        by_cases hk4 : k < ([a, b, c, d].map fun c : UInt8 => (c.toNat : Int)).length
        · obtain ⟨p, n, hst, hrun', hn1, hn4, hin, hp0, hp1, _⟩ := hrun.step hp4 hk4
          have hstep := fun ty => next_step (P := Tryd.prog) hst (by omega) wr wo.heap.size hK ty
          obtain ⟨hpd, hp128⟩ : 0 ≤ hexD p.toNat.toUInt8 ∧ p < 128 := by
            have hm : p ∈ [a, b, c, d].map fun c : UInt8 => (c.toNat : Int) := by rw [hst.2.2.1]; exact getD_mem hk4
            obtain ⟨x, hx, rfl⟩ := List.mem_map.1 hm
            rw [show ((x.toNat : Int).toNat.toUInt8) = x from u8_eq rfl]
            simp only [List.mem_cons, List.not_mem_nil, or_false] at hx
            rcases hx with rfl | rfl | rfl | rfl
            · exact ⟨ha, by have := (hexD_rng ha).1; omega⟩
            · exact ⟨hb', by have := (hexD_rng hb').1; omega⟩
            · exact ⟨hc, by have := (hexD_rng hc).1; omega⟩
            · exact ⟨hd', by have := (hexD_rng hd').1; omega⟩
          obtain ⟨_, hd16⟩ := hexD_rng hpd
          have hix := fun W => Tryd.strings_IndexRune_ascii ⟨#[48, 49, 50, 51, 52, 53, 54, 55, 56, 57, 65, 66, 67, 68, 69, 70]⟩ p W hp0 hp128
          rw [show (ByteArray.mk #[48, 49, 50, 51, 52, 53, 54, 55, 56, 57, 65, 66, 67, 68, 69, 70]).data.toList = [48, 49, 50, 51, 52, 53, 54, 55, 56, 57, 65, 66, 67, 68, 69, 70] from rfl, hexD_ix hpd] at hix
          generalize hD : hexD p.toNat.toUInt8 = D at *
          have HD := Lib.hid hD
          clear hD
          have h16 : (16 : Int) ^ k ≤ 4096 := by
            have : (16 : Nat) ^ k ≤ 16 ^ 3 := Nat.pow_le_pow_right (by decide) (by rw [hlen4] at hk4; omega)
            exact_mod_cast this
          go_wp2_with (go_at_call 55; refine (hix _).mono ?_; rintro e w5 ⟨rfl, rfl⟩)
          rw [i32_or4 hpd hd16 hV0 (by omega)]
          have hb2 := Lib.below_iterAt hbk (k := wo.heap.size) (Nat.le_refl _) (t.extract 0 4) (i + n)
          have hK1 := Lib.iterAt_heap wr wo.heap.size (t.extract 0 4) i (i + n) hK
          refine ⟨⟨k + 1, i + n, hrun', hK1, ⟨V * 16 + D, rfl, ?_, by omega, by rw [Int.pow_succ]; omega⟩, hb2⟩, ?_⟩
          · rw [hst.snoc hk4, List.foldl_append, HV.out]
            simp only [List.foldl_cons, List.foldl_nil]
            rw [HD.out]
          · rw [iterPos_of hK, iterPos_of hK1]
            omega
        · have hk2 : k = ([a, b, c, d].map fun c : UInt8 => (c.toNat : Int)).length := Nat.le_antisymm hrun.1 (by omega)
          subst hk2
          obtain ⟨hi, _, hie⟩ := hrun.end_ hp4
          have hend := fun ty => Lib.run_next_end_at (P := Tryd.prog) wr wo.heap.size (t.extract 0 4) i ty hK (by simp at hie; omega)
          have hvv : V = hexV [a, b, c, d] := by
            rw [← HV.out]
            unfold hexV
            rw [List.take_length, List.foldl_map]
            have e : ∀ x : UInt8, x.toNat.toUInt8 = x := fun x => by simp
            simp only [Int.toNat_natCast, e]
          have Hvv := Lib.hid hvv
          clear hvv hK hi hie hrun
          rw [hlen4] at hV1
          have hV2 : V < 65536 := by omega
          have hcap : (textZ ((hexG s.data.toList).take k0)).length + 4 ≤ 140737488355328 := by
            have h1 := textZ_len ((hexG s.data.toList).take k0)
            have h2 := (len_textL ((hexG s.data.toList).take k0)).2
            rw [List.length_take] at h2
            omega
          have hnext : Hid ((textZ ((hexG s.data.toList).take (k0 + 1))).map (Value.int .u8) = (textZ ((hexG s.data.toList).take k0)).map (Value.int .u8) ++ Lib.runeCells V) := by
            rw [htk, ← Hvv.out, textZ_snoc, List.map_append]; rfl
          have hnext2 : Hid ((textZ ((hexG s.data.toList).take (k0 + 1))).length = (textZ ((hexG s.data.toList).take k0)).length + (Lib.runeCells V).length) := by
            have := congrArg List.length hnext.out
            simp only [List.length_map, List.length_append] at this
            exact this
          have hownr := own_below hown hbk
          have hbr : Below w.heap.size w wr := hb.trans (hbk.mono hb.size)
          go_wp2_with (go_at_call 22; refine (Tryd.utf8_AppendRune_plain _ _ _ _ V (by omega) (by omega) _ hownr hcap hbr.size).mono ?_; rintro e w2 ⟨v', rfl, hown2, o, hg2⟩)
          have hb2 : Below w.heap.size w w2 := below_grownOwn (hbr.alloc hbr.size o) (hownr.alloc o) hg2 (by have := hbr.size; simp; omega) (Nat.le_refl _)
          rw [← hnext.out, ← hnext2.out] at hown2
          have h5' : (5 : Int) ≤ t.size := by omega
          go_wp2_with fail
          go_roundw
          case rel => exact ⟨k0 + 1, t.extract 5 t.size, by have := congrArg List.length ht; rw [List.length_drop, htl] at this; omega, rfl, by rw [ext_list, List.take_of_length_le (by omega), ht, List.drop_drop]; rfl, hown2, hb2⟩
          case measure => simp; omega
    · have hnil := hexOk_nil (by rw [← ht]; omega) (hexOk_drop k0 _ hk Hok.out)
      have hlt5 : ¬ ((5 : Int) ≤ t.size) := by omega
      have hd2 := (hexG_drop k0 _ hk).1
      rw [hnil] at hd2
      have hle : (hexG s.data.toList).length ≤ k0 := by
        have := congrArg List.length hd2
        rw [List.length_drop] at this
        simp [hexG] at this
        omega
      rw [List.take_of_length_le hle] at hown
      have hconv := conv_own (P := Tryd.prog) 51 9 5 Tryd.underlying51 Tryd.underlying5 Tryd.underlying9 wo hown
      rw [strOfNums_text] at hconv
      go_wp2_with fail
      exact HP.out _ hb
end Go.Proofs.YtpnjandlpbjddabDoor
