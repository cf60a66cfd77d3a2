/- Contract of line.next; condition: less than 2^45 bytes. -/
import Derived.Test.YtlcgfgbdehdndaaDoorYD
set_option maxRecDepth 100000
set_option maxHeartbeats 1000000
namespace Go.Proofs.YtlcgfgbdehdndaaDoor
open Go Go.RowKit

theorem ne_int {a : UInt8} {n : Nat} (h : a.toNat ≠ n) : ((a.toNat : Int) != (n : Int)) = true ∧ ((a.toNat : Int) == (n : Int)) = false := by
  constructor
  · rw [bne_iff_ne]; omega
  · rw [beq_eq_false_iff_ne]; omega
theorem Next_any (s : ByteArray) (i : Nat) (hi : i ≤ s.size) (hs : s.size ≤ 35184372089000) (w : World) :
    Calls Tryd.prog 25 #[.string s, .int .i64 i] w (NxPost s i w) := by
  generalize hP : NxPost s i w = P at *
  obtain ⟨n, hn⟩ : ∃ n, n = (lnT (s.data.toList.drop i)).length := ⟨_, rfl⟩
  obtain ⟨h1, h2, h3, h4⟩ := nx_facts s i n hi hn
  obtain ⟨g1, g2, g3, g4⟩ := eol_facts s i n hn
  have hx := fun m hm => lnE_ext s i n m hn hm
  have H2 := Lib.hid h2
  have H3 := Lib.hid h3
  have H4 := Lib.hid h4
  have G1 := Lib.hid g1
  have G2 := Lib.hid g2
  have G3 := Lib.hid g3
  have G4 := Lib.hid g4
  have Hx := Lib.hid hx
  clear h2 h3 h4 g1 g2 g3 g4 hx hn
  go_enter Tryd.func25, Tryd.ntmps25
  go_wp2_with fail
  go_loop [5] (fun e => NxRel i n e) (fun e => i + n - (intOf e).toNat)
  case atStart => exact ⟨0, by omega, rfl⟩
  case round =>
    obtain ⟨k, hk, rfl⟩ := hrel
    by_cases hkn : k < n
    · obtain ⟨a1, a2⟩ := H2.out k hkn (by omega)
      have b1 := ne_int (n := 10) (u8_ne a1)
      have b2 := ne_int (n := 13) (u8_ne a2)
      have c1 : ((s[i + k].toNat : Int) != 10) = true := b1.1
      have c2 : ((s[i + k].toNat : Int) != 13) = true := b2.1
      have hlt : i + k < s.size := by omega
      clear a1 a2 b1 b2
      go_wp2_with fail
      go_round
      case rel => exact ⟨k + 1, by omega, by go_num⟩
      case measure => simp [intOf]; omega
    · have hk2 : k = n := by omega
      subst hk2
      clear hkn
      generalize hpq : i + k = q at *
      have Hpq := Lib.hid hpq
      clear hpq
      have b0 := heap_alloc_new w (.cells #[.string ⟨#[]⟩, .string ⟨#[]⟩, .int .i64 0] 57)
      by_cases hq : q < s.size
      · rcases H3.out hq with e10 | e13
        · have c1 : ((s[q].toNat : Int) != 10) = false := by rw [e10]; rfl
          have c2 : ((s[q].toNat : Int) == 13) = false := by rw [e10]; rfl
          have hE := Lib.hid (G2.out hq e10)
          have hX := Lib.hid (Hx.out 1 (by rw [hE.out]; rfl))
          clear e10
          go_wp2_with fail
          have hsl : i ≤ q := by have := Hpq.out; omega
          go_region
          go_wp2_with fail
          refine bodyPost_ret (v := .agg #[.string (s.extract i q), .string (s.extract q (q + 1)), .int .i64 i]) (by simp [results, Tryd.results25, go_sem]) rfl ?_
          rw [← hP]
          refine ⟨?_, ((Below.refl _ w).alloc (Nat.le_refl _) _).drew⟩
          have e1 := H4.out
          have e2 := hX.out
          show Ending.returned (.agg #[.string (s.extract i q), .string (s.extract q (q + 1)), .int .i64 i]) = _
          rw [e1, e2]
        · have c1 : ((s[q].toNat : Int) != 10) = true := by rw [e13]; rfl
          have c2 : ((s[q].toNat : Int) != 13) = false := by rw [e13]; rfl
          have c3 : ((s[q].toNat : Int) == 13) = true := by rw [e13]; rfl
          by_cases hq2 : q + 1 < s.size
          · by_cases e10 : s[q + 1] = 10
            · have c4 : ((s[q + 1].toNat : Int) == 10) = true := by rw [e10]; rfl
              have hE := Lib.hid (G3.out hq hq2 e13 e10)
              have hX := Lib.hid (Hx.out 2 (by rw [hE.out]; rfl))
              clear e10 e13
              go_wp2_with fail
              have hsl : i ≤ q := by have := Hpq.out; omega
              go_region
              go_wp2_with fail
              refine bodyPost_ret (v := .agg #[.string (s.extract i q), .string (s.extract q (q + 2)), .int .i64 i]) (by simp [results, Tryd.results25, go_sem]) rfl ?_
              rw [← hP]
              refine ⟨?_, ((Below.refl _ w).alloc (Nat.le_refl _) _).drew⟩
              have e1 := H4.out
              have e2 := hX.out
              show Ending.returned (.agg #[.string (s.extract i q), .string (s.extract q (q + 2)), .int .i64 i]) = _
              rw [e1, e2]
            · have c4 : ((s[q + 1].toNat : Int) == 10) = false := (ne_int (n := 10) (u8_ne e10)).2
              have hE := Lib.hid (G4.out hq e13 (fun _ => e10))
              have hX := Lib.hid (Hx.out 1 (by rw [hE.out]; rfl))
              clear e10 e13
              go_wp2_with fail
              have hsl : i ≤ q := by have := Hpq.out; omega
              go_region
              go_wp2_with fail
              refine bodyPost_ret (v := .agg #[.string (s.extract i q), .string (s.extract q (q + 1)), .int .i64 i]) (by simp [results, Tryd.results25, go_sem]) rfl ?_
              rw [← hP]
              refine ⟨?_, ((Below.refl _ w).alloc (Nat.le_refl _) _).drew⟩
              have e1 := H4.out
              have e2 := hX.out
              show Ending.returned (.agg #[.string (s.extract i q), .string (s.extract q (q + 1)), .int .i64 i]) = _
              rw [e1, e2]
          · have hE := Lib.hid (G4.out hq e13 (fun h => absurd h hq2))
            have hX := Lib.hid (Hx.out 1 (by rw [hE.out]; rfl))
            clear e13
            go_wp2_with fail
            have hsl : i ≤ q := by have := Hpq.out; omega
            go_region
            go_wp2_with fail
            refine bodyPost_ret (v := .agg #[.string (s.extract i q), .string (s.extract q (q + 1)), .int .i64 i]) (by simp [results, Tryd.results25, go_sem]) rfl ?_
            rw [← hP]
            refine ⟨?_, ((Below.refl _ w).alloc (Nat.le_refl _) _).drew⟩
            have e1 := H4.out
            have e2 := hX.out
            show Ending.returned (.agg #[.string (s.extract i q), .string (s.extract q (q + 1)), .int .i64 i]) = _
            rw [e1, e2]
      · have hq3 : q = s.size := by have := Hpq.out; omega
        have hE := Lib.hid (G1.out hq3)
        have hX := Lib.hid (show s.extract q q = _ from Hx.out 0 (by rw [hE.out]; rfl))
        clear hq3
        go_wp2_with fail
        have hsl : i ≤ q := by have := Hpq.out; omega
        go_region
        go_wp2_with fail
        refine bodyPost_ret (v := .agg #[.string (s.extract i q), .string (s.extract q q), .int .i64 i]) (by simp [results, Tryd.results25, go_sem]) rfl ?_
        rw [← hP]
        refine ⟨?_, ((Below.refl _ w).alloc (Nat.le_refl _) _).drew⟩
        have e1 := H4.out
        have e2 := hX.out
        show Ending.returned (.agg #[.string (s.extract i q), .string (s.extract q q), .int .i64 i]) = _
        rw [e1, e2]
end Go.Proofs.YtlcgfgbdehdndaaDoor
