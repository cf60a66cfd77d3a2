/- Contract of line.Walk over the bound method (*diacritic/ssa.script).pieces, whose receiver's block turns; condition: at most 100,000 bytes. -/
import Derived.Test.YtlcgfgbdehdndaaDoorVA
set_option maxRecDepth 100000
set_option maxHeartbeats 4000000
namespace Go.Proofs.YtlcgfgbdehdndaaDoor
open Go Go.RowKit

theorem sz_but {C : Nat} {w w1 : World} {o : Obj} (h : But C (w.alloc o).heap.size (w.alloc o) w1) : w.heap.size + 1 ≤ w1.heap.size := by
  have := h.size
  simpa using this
theorem own_type {w : World} {base size : Nat} {e : TypeId} {v : Value} {n : Nat} {xs : List Value} (h : w.ownsRow base e size v n xs) : ∀ b, v.ownBlock = some b → ∃ cs fz, w.heap[b]? = some (.cells cs e fz) := by
  rcases h.2 with ⟨rfl, _⟩ | ⟨g, cap, cur, rfl, hb, hg, rest⟩
  · intro b hb; simp [Value.ownBlock] at hb
  · intro b hb
    simp only [Value.ownBlock, Option.some.injEq] at hb
    subst hb
    exact ⟨_, _, hg⟩
def PcPostS {σ : Type} (f : σ → List UInt8 → Option (σ × List Pc)) (st : σ) (s : List UInt8) (C : Nat) (St : σ → World → Prop) (w0 : World) (e : Ending) (w' : World) : Prop :=
  ∃ v, e = .returned (.tuple #[v, .bool (f st s).isSome]) ∧ Rows3 pcV w' v (((f st s).map fun x => x.2).getD []) ∧ But C w0.heap.size w0 w' ∧ ∀ st' ps, f st s = some (st', ps) → St st' w'
def WkPostS {σ : Type} (f : σ → List UInt8 → Option (σ × List Pc)) (st0 : σ) (C : Nat) (t : List UInt8) (w0 : World) (e : Ending) (w' : World) : Prop :=
  ∃ v x a, e = .returned (.tuple #[v, .agg #[.int .i64 x, .int .i64 a]]) ∧ WkRes (walkS f st0 (linesL t)) w0.heap.size w' v x a ∧ But C w0.heap.size w0 w'
def WkRelS {σ : Type} (f : σ → List UInt8 → Option (σ × List Pc)) (st0 : σ) (C : Nat) (St : σ → World → Prop) (t : List UInt8) (w0 : World) (v i : Value) (wr : World) : Prop := ∃ (acc : List Pc) (k fu : Nat) (st : σ), k ≤ t.length ∧ i = .int .i64 k ∧ walkS f st0 (linesL t) = pre acc (walkS f st (linesF fu (t.drop k) k)) ∧ t.length - k ≤ fu ∧ acc.length ≤ 9 * k ∧ wr.ownsRow (w0.heap.size + 1) 54 3 v acc.length (acc.flatMap pcV) ∧ (acc = [] → v = .slice none 0 0) ∧ St st wr ∧ But C (w0.heap.size + 1) (w0.alloc (.cells #[.int .i64 0, .int .i64 0] 26)) wr
theorem Walk_ssa {σ : Type} (f : σ → List UInt8 → Option (σ × List Pc)) (C : Nat) (St : σ → World → Prop) (hSt : ∀ st w w' row, St st w → w.grownBy w' row → (∀ b, row = some b → C < b ∧ ∃ cs fz, w.heap[b]? = some (.cells cs 54 fz)) → St st w') (hf : ∀ (st : σ) (s : List UInt8) (w : World), s.length ≤ 100000 → St st w → Calls Tryd.prog 12 #[.pointer (some ⟨C, 0, none⟩), .string (B s)] w (PcPostS f st s C St w)) (hlen : ∀ st s st' ps, f st s = some (st', ps) → ps.length ≤ 4 * s.length + 4)
    (st0 : σ) (s : ByteArray) (hs : s.size ≤ 100000) (w : World) (hC : C < w.heap.size) (hKw : St st0 w) :
    Calls Tryd.prog 11 #[.string s, .func (.func 12) #[.pointer (some ⟨C, 0, none⟩)] #[]] w (WkPostS f st0 C s.data.toList w) := by
  have hSb : ∀ (st : σ) (w w' : World), St st w → Below w.heap.size w w' → St st w' := fun st w w' h hb => hSt st w w' none h ⟨hb.os, hb.tape, hb.output, hb.size, fun k hk _ => hb.block k hk⟩ (fun b h => by cases h)
  generalize hP : WkPostS f st0 C s.data.toList w = P at *
  obtain ⟨i0, hi, iz0, iz1, iz2⟩ := info_parts piece_info
  have hl0 := len_data s
  go_enter Tryd.func11, Tryd.ntmps11
  go_wp2_with fail
  go_loopw [6, 7] (fun v i wr => WkRelS f st0 C St s.data.toList w v i wr) (fun _ i _ => s.size - (intOf i).toNat)
  case atStart => exact ⟨[], 0, s.data.toList.length, st0, by omega, rfl, (pre_nil _).symm, by omega, by simp, ⟨rfl, .inl ⟨rfl, rfl⟩⟩, fun _ => rfl, hSb _ _ _ hKw ((Below.refl _ _).alloc (Nat.le_refl _) _), But.refl _ _ _⟩
  case round =>
    obtain ⟨acc, k, fu, st, hk, rfl, hl, hfu, ha, hown, h0, hKr, hb⟩ := hrel
    rw [hl0] at hk hfu
    obtain ⟨fc0, fc1, ff0, ff1, hz⟩ := box2_but hC hb
    by_cases hlt : k < s.size
    · have hnx := fun w => Next_any s k (by omega) (by omega) w
      unfold NxPost at hnx
      have hrl : (s.data.toList.drop k).length = s.size - k := by rw [List.length_drop, hl0]
      have hne : s.data.toList.drop k ≠ [] := by intro e; rw [e] at hrl; simp at hrl; omega
      have hpos := eol_pos hne
      have hle := ln_le (s.data.toList.drop k)
      obtain ⟨fu', rfl⟩ : ∃ fu', fu = fu' + 1 := ⟨fu - 1, by omega⟩
      obtain ⟨hn, hy⟩ := wkS_step (by omega) hl
      have s1 := B_size (lnT (s.data.toList.drop k))
      have s2 := B_size (lnE (s.data.toList.drop k))
      rw [hrl] at hle
      clear hl hne hrl
      generalize hT : lnT (s.data.toList.drop k) = T at *
      generalize lnE (s.data.toList.drop k) = E at *
      have hcl := fun w h => hf st T w (by omega) h
      clear hT
      cases hfT : f st T with
      | none =>
        have Hr := Lib.hid (hn hfT)
        have hcl2 : ∀ w, St st w → Calls Tryd.prog 12 #[.pointer (some ⟨C, 0, none⟩), .string (B T)] w fun e w' => e = .returned (.tuple #[.slice none 0 0, .bool false]) ∧ But C w.heap.size w w' := fun w h => (hcl w h).mono fun e w' ⟨v, h1, h2, h3, _⟩ => by
          rw [hfT] at h1 h2
          rcases h2 with ⟨_, rfl⟩ | ⟨_, _, h4, _⟩
          · exact ⟨h1, h3⟩
          · exact absurd rfl h4
        clear hn hy hcl hfT hown h0
        go_wp2_with (first | (go_at_call 25; refine (hnx _).mono ?_; rintro e w1 ⟨rfl, hb1⟩; have hK1 := hSb _ _ _ hKr hb1; have hz1 := hb1.size; have HB1 := hb.trans (But.of (hb1.mono (B' := w.heap.size + 1) (by omega)))) | (go_at_call 12; refine (hcl2 _ (hSb _ _ _ hK1 ((Below.refl _ _).alloc (Nat.le_refl _) _))).mono ?_; rintro e w2 ⟨rfl, hb2⟩; have hz2 := sz_but hb2; have HB2 := (HB1.alloc (by omega) _).trans (hb2.mono (by simp; omega)); obtain ⟨gc0, gc1, gf0, gf1, hlt2⟩ := box2_but hC HB2))
        refine bodyPost_ret (v := .tuple #[.slice none 0 0, .agg #[.int .i64 1, .int .i64 k]]) (by simp [results, Tryd.results11, go_sem, gc0, gc1]) rfl ?_
        rw [← hP]
        refine ⟨_, 1, k, rfl, .inr ⟨k, Hr.out, rfl, rfl, rfl⟩, ?_⟩
        exact ((((But.refl C _ w).alloc (Nat.le_refl _) _).trans (HB2.mono (by omega))).setCell (.inl (Nat.le_refl _)) _).setCell (.inl (Nat.le_refl _)) _
      | some sq =>
        obtain ⟨st', ps⟩ := sq
        have hlp := hlen _ _ _ _ hfT
        have Hy := Lib.hid (hy st' ps hfT)
        clear hn hy
        cases ps with
        | nil =>
          have hcl2 : ∀ w, St st w → Calls Tryd.prog 12 #[.pointer (some ⟨C, 0, none⟩), .string (B T)] w fun e w' => e = .returned (.tuple #[.slice none 0 0, .bool true]) ∧ But C w.heap.size w w' ∧ St st' w' := fun w h => (hcl w h).mono fun e w' ⟨v, h1, h2, h3, h6⟩ => by
            have h6 := h6 _ _ hfT
            rw [hfT] at h1 h2
            rcases h2 with ⟨_, rfl⟩ | ⟨_, _, h4, _⟩
            · exact ⟨h1, h3, h6⟩
            · exact absurd rfl h4
          clear hcl hfT
          by_cases hE : E = []
          · have hEi : (B E).toList.isEmpty = true := by rw [ByteArray.toList_eq, B_data]; rw [hE]; rfl
            have HE := Lib.hid hE
            clear hE
            go_wp2_with (first | (go_at_call 25; refine (hnx _).mono ?_; rintro e w1 ⟨rfl, hb1⟩; have hK1 := hSb _ _ _ hKr hb1; have hz1 := hb1.size; have HB1 := hb.trans (But.of (hb1.mono (B' := w.heap.size + 1) (by omega)))) | (go_at_call 12; refine (hcl2 _ (hSb _ _ _ hK1 ((Below.refl _ _).alloc (Nat.le_refl _) _))).mono ?_; rintro e w2 ⟨rfl, hb2, hS2⟩; have hS2 := Lib.hid hS2; have hz2 := sz_but hb2; have HB2 := (HB1.alloc (by omega) _).trans (hb2.mono (by simp; omega)); have hown2 := own_but ((own_below hown hb1).alloc _) hb2 (by omega); have hbx := heap_but (heap_alloc_new w1 (.cells #[.string (B T), .string (B E), .int .i64 k] 57)) (by omega) hb2; obtain ⟨bc0, bc1, bc2⟩ := cells3 hbx) | (at_builtin; refine wpList_append_own_none rfl _ _ 23 rfl (w.heap.size + 1) 54 i0 3 Tryd.underlying23 hi _ acc.length _ rfl hown2 rfl ?_))
            have hbx3 := hbx
            obtain ⟨cc0, cc1, cc2⟩ := cells3 hbx3
            have Hown3 := Lib.hid hown2
            clear hown2 hbx
            go_roundw
            case rel =>
              refine ⟨acc, k + (T.length + E.length), fu', st', by omega, by simp, ?_, by omega, ?_, ?_, ?_, hS2.out, HB2⟩
              · rw [Hy.out]; rw [HE.out]; simp [endP]
              · simp at hlp ⊢; omega
              · exact Hown3.out
              · exact h0
            case measure => simp [intOf]; omega
          · have hEi : (B E).toList.isEmpty = false := by rw [ByteArray.toList_eq, B_data]; cases E with | nil => exact absurd rfl hE | cons _ _ => rfl
            have HE := Lib.hid hE
            clear hE
            go_wp2_with (first | (go_at_call 25; refine (hnx _).mono ?_; rintro e w1 ⟨rfl, hb1⟩; have hK1 := hSb _ _ _ hKr hb1; have hz1 := hb1.size; have HB1 := hb.trans (But.of (hb1.mono (B' := w.heap.size + 1) (by omega)))) | (go_at_call 12; refine (hcl2 _ (hSb _ _ _ hK1 ((Below.refl _ _).alloc (Nat.le_refl _) _))).mono ?_; rintro e w2 ⟨rfl, hb2, hS2⟩; have hS2 := Lib.hid hS2; have hz2 := sz_but hb2; have HB2 := (HB1.alloc (by omega) _).trans (hb2.mono (by simp; omega)); have hown2 := own_but ((own_below hown hb1).alloc _) hb2 (by omega); have hbx := heap_but (heap_alloc_new w1 (.cells #[.string (B T), .string (B E), .int .i64 k] 57)) (by omega) hb2; obtain ⟨bc0, bc1, bc2⟩ := cells3 hbx) | (at_builtin; refine wpList_append_own_none rfl _ _ 23 rfl (w.heap.size + 1) 54 i0 3 Tryd.underlying23 hi _ acc.length _ rfl hown2 rfl ?_))
            have hbx3 := hbx
            obtain ⟨cc0, cc1, cc2⟩ := cells3 hbx3
            have Hown3 := Lib.hid hown2
            clear hown2 hbx
            have hmk := fun w (hw : ∀ (j : Nat) x, [E][j]? = some x → w.cell? ⟨w2.heap.size, j, none⟩ = some (.string (B x))) => Mark_any w2.heap.size 1 [E] w hw (by simp) (by simp) (by simp; omega) (by simp)
            have hnw := Lib.hid (one_new w2 E)
            simp only [List.flatten_singleton, List.length_singleton] at hmk
            go_wp2_with (first | (go_at_call 26; refine (hmk _ hnw.out).mono ?_; rintro e w4 ⟨rfl, hb4⟩; have hz4 := sz_a1 hb4; have hown4 := own_below (Hown3.out.alloc _) hb4; have HB4 := (HB2.alloc (by omega) _).trans (But.of (hb4.mono (by simp; omega))); have hbx4 := heap_below (heap_more hbx3 _) hb4) | (at_builtin; refine wpList_append_own _ rfl _ _ 23 rfl (w.heap.size + 1) 54 i0 _ 3 40 Tryd.underlying23 hi iz0 iz1 iz2 rfl (by decide) _ _ _ rfl (hown4.alloc _) ⟨w4.heap.size, 0, none⟩ 1 1 (pcV (mk E)) rfl rfl ?d1 ?d2 ?d3 ?d4 ?d5 ?_))
            case d1 => exact three_new w4 _ _ _ _
            case d2 => intro u hu; simp only [pcV, List.mem_cons, List.not_mem_nil, or_false] at hu; rcases hu with rfl | rfl | rfl <;> rfl
            case d3 => unfold maxLen; omega
            case d4 => omega
            case d5 => simp; omega
            intro v5 w5 hown5 hg5 h05
            have hbx5 := heap_grown (heap_more hbx4 _) hg5 (own_ne2 hown4 hbx4)
            obtain ⟨dc0, dc1, dc2⟩ := cells3 hbx5
            have HB5 := (HB4.alloc (by omega) _).grownOwn (hown4.alloc _) hg5 (by simp; omega) (Nat.le_refl _)
            have hS5 := Lib.hid (hSt _ _ _ _ (hSb _ _ _ hS2.out (((below_a1 hb4)).trans ((Below.refl _ _).alloc (by have := hb4.size; simp at this; omega) _))) hg5 (fun b hb => ⟨by have := ((hown4.alloc (.cells #[.bool true, .string (B nMark), .string (B E)] 54)).lt b hb).1; omega, own_type (hown4.alloc _) b hb⟩))
            have Hown5 := Lib.hid hown5
            clear hown5 h05 hown4 hg5 hbx4 hbx5 hbx3 cc0 cc1 cc2 bc0 bc1 bc2
            go_wp2_with fail
            go_roundw
            case rel =>
              refine ⟨acc ++ [mk E], k + (T.length + E.length), fu', st', by omega, by simp, ?_, by omega, ?_, ?_, ?_, hS5.out, HB5⟩
              · rw [Hy.out]; simp [endP, HE.out]
              · simp at hlp ⊢; omega
              · have := Hown5.out; simp only [List.length_append, List.flatMap_append, List.length_cons, List.length_nil, List.flatMap_cons, List.flatMap_nil, List.append_nil, List.append_assoc, Nat.zero_add] at this ⊢; exact this
              · intro h; simp at h
            case measure => simp [intOf]; omega
        | cons p ps =>
          have hcl2 : ∀ w, St st w → Calls Tryd.prog 12 #[.pointer (some ⟨C, 0, none⟩), .string (B T)] w fun e w' => ∃ bk c : Nat, e = .returned (.tuple #[.slice (some ⟨bk, 0, none⟩) (ps.length + 1) c, .bool true]) ∧ ps.length + 1 ≤ c ∧ bk < w'.heap.size ∧ Hid (∀ j u, ((p :: ps).flatMap pcV)[j]? = some u → w'.cell? ⟨bk, j, none⟩ = some u) ∧ But C w.heap.size w w' ∧ St st' w' := fun w h => (hcl w h).mono fun e w' ⟨v, h1, h2, h3, h9⟩ => by
            have h9 := h9 _ _ hfT
            rw [hfT] at h1 h2
            rcases h2 with ⟨h4, _⟩ | ⟨bk, c, _, h5, h6, h7, h8⟩
            · simp at h4
            · subst h5
              exact ⟨bk, c, h1, h6, h7, Lib.hid h8, h3, h9⟩
          clear hcl hfT
          by_cases hE : E = []
          · have hEi : (B E).toList.isEmpty = true := by rw [ByteArray.toList_eq, B_data]; rw [hE]; rfl
            have HE := Lib.hid hE
            clear hE
            go_wp2_with (first | (go_at_call 25; refine (hnx _).mono ?_; rintro e w1 ⟨rfl, hb1⟩; have hK1 := hSb _ _ _ hKr hb1; have hz1 := hb1.size; have HB1 := hb.trans (But.of (hb1.mono (B' := w.heap.size + 1) (by omega)))) | (go_at_call 12; refine (hcl2 _ (hSb _ _ _ hK1 ((Below.refl _ _).alloc (Nat.le_refl _) _))).mono ?_; rintro e w2 ⟨bk, c, rfl, hc, hbk, hcells, hb2, hS2⟩; have hS2 := Lib.hid hS2; have hz2 := sz_but hb2; have HB2 := (HB1.alloc (by omega) _).trans (hb2.mono (by simp; omega)); have hown2 := own_but ((own_below hown hb1).alloc _) hb2 (by omega); have hbx := heap_but (heap_alloc_new w1 (.cells #[.string (B T), .string (B E), .int .i64 k] 57)) (by omega) hb2; obtain ⟨bc0, bc1, bc2⟩ := cells3 hbx) | (at_builtin; refine wpList_append_own _ rfl _ _ 23 rfl (w.heap.size + 1) 54 i0 _ 3 40 Tryd.underlying23 hi iz0 iz1 iz2 rfl (by decide) _ acc.length _ rfl hown2 ⟨bk, 0, none⟩ (ps.length + 1) c ((p :: ps).flatMap pcV) rfl ?c0 ?c1 ?c2 ?c3 ?c4 ?c5 ?_))
            case c0 => exact flat3 pcV pcV_len (p :: ps)
            case c1 => intro j u hu; rw [show (⟨bk, 0, none⟩ : Addr).add j = ⟨bk, j, none⟩ by unfold Addr.add; split <;> simp_all]; exact hcells.out j u hu
            case c2 => exact pcV_one _
            case c3 => unfold maxLen; simp at hlp ⊢; omega
            case c4 => simp at hlp ⊢; omega
            case c5 => omega
            intro v3 w3 hown3 hg3 h03
            have hbx3 := heap_grown hbx hg3 (own_ne2 hown2 hbx)
            obtain ⟨cc0, cc1, cc2⟩ := cells3 hbx3
            have HB3 := HB2.grownOwn hown2 hg3 (by omega) (Nat.le_refl _)
            have hS3 := Lib.hid (hSt _ _ _ _ hS2.out hg3 (fun b hb => ⟨by have := (hown2.lt b hb).1; omega, own_type hown2 b hb⟩))
            have hz3 := hg3.size
            have Hown3 := Lib.hid hown3
            clear hown3 h03 hown2 hg3 hbx
            go_wp2_with fail
            go_roundw
            case rel =>
              refine ⟨acc ++ (p :: ps), k + (T.length + E.length), fu', st', by omega, by simp, ?_, by omega, ?_, ?_, ?_, hS3.out, HB3⟩
              · rw [Hy.out]; rw [HE.out]; simp [endP]
              · simp at hlp ⊢; omega
              · have := Hown3.out; rw [List.length_append, List.flatMap_append]; exact this
              · intro h; simp at h
            case measure => simp [intOf]; omega
          · have hEi : (B E).toList.isEmpty = false := by rw [ByteArray.toList_eq, B_data]; cases E with | nil => exact absurd rfl hE | cons _ _ => rfl
            have HE := Lib.hid hE
            clear hE
            go_wp2_with (first | (go_at_call 25; refine (hnx _).mono ?_; rintro e w1 ⟨rfl, hb1⟩; have hK1 := hSb _ _ _ hKr hb1; have hz1 := hb1.size; have HB1 := hb.trans (But.of (hb1.mono (B' := w.heap.size + 1) (by omega)))) | (go_at_call 12; refine (hcl2 _ (hSb _ _ _ hK1 ((Below.refl _ _).alloc (Nat.le_refl _) _))).mono ?_; rintro e w2 ⟨bk, c, rfl, hc, hbk, hcells, hb2, hS2⟩; have hS2 := Lib.hid hS2; have hz2 := sz_but hb2; have HB2 := (HB1.alloc (by omega) _).trans (hb2.mono (by simp; omega)); have hown2 := own_but ((own_below hown hb1).alloc _) hb2 (by omega); have hbx := heap_but (heap_alloc_new w1 (.cells #[.string (B T), .string (B E), .int .i64 k] 57)) (by omega) hb2; obtain ⟨bc0, bc1, bc2⟩ := cells3 hbx) | (at_builtin; refine wpList_append_own _ rfl _ _ 23 rfl (w.heap.size + 1) 54 i0 _ 3 40 Tryd.underlying23 hi iz0 iz1 iz2 rfl (by decide) _ acc.length _ rfl hown2 ⟨bk, 0, none⟩ (ps.length + 1) c ((p :: ps).flatMap pcV) rfl ?c0 ?c1 ?c2 ?c3 ?c4 ?c5 ?_))
            case c0 => exact flat3 pcV pcV_len (p :: ps)
            case c1 => intro j u hu; rw [show (⟨bk, 0, none⟩ : Addr).add j = ⟨bk, j, none⟩ by unfold Addr.add; split <;> simp_all]; exact hcells.out j u hu
            case c2 => exact pcV_one _
            case c3 => unfold maxLen; simp at hlp ⊢; omega
            case c4 => simp at hlp ⊢; omega
            case c5 => omega
            intro v3 w3 hown3 hg3 h03
            have hbx3 := heap_grown hbx hg3 (own_ne2 hown2 hbx)
            obtain ⟨cc0, cc1, cc2⟩ := cells3 hbx3
            have HB3 := HB2.grownOwn hown2 hg3 (by omega) (Nat.le_refl _)
            have hS3 := Lib.hid (hSt _ _ _ _ hS2.out hg3 (fun b hb => ⟨by have := (hown2.lt b hb).1; omega, own_type hown2 b hb⟩))
            have hz3 := hg3.size
            have Hown3 := Lib.hid hown3
            clear hown3 h03 hown2 hg3 hbx
            have hmk := fun w (hw : ∀ (j : Nat) x, [E][j]? = some x → w.cell? ⟨w3.heap.size, j, none⟩ = some (.string (B x))) => Mark_any w3.heap.size 1 [E] w hw (by simp) (by simp) (by simp; omega) (by simp)
            have hnw := Lib.hid (one_new w3 E)
            simp only [List.flatten_singleton, List.length_singleton] at hmk
            go_wp2_with (first | (go_at_call 26; refine (hmk _ hnw.out).mono ?_; rintro e w4 ⟨rfl, hb4⟩; have hz4 := sz_a1 hb4; have hown4 := own_below (Hown3.out.alloc _) hb4; have HB4 := (HB3.alloc (by omega) _).trans (But.of (hb4.mono (by simp; omega))); have hbx4 := heap_below (heap_more hbx3 _) hb4) | (at_builtin; refine wpList_append_own _ rfl _ _ 23 rfl (w.heap.size + 1) 54 i0 _ 3 40 Tryd.underlying23 hi iz0 iz1 iz2 rfl (by decide) _ _ _ rfl (hown4.alloc _) ⟨w4.heap.size, 0, none⟩ 1 1 (pcV (mk E)) rfl rfl ?d1 ?d2 ?d3 ?d4 ?d5 ?_))
            case d1 => exact three_new w4 _ _ _ _
            case d2 => intro u hu; simp only [pcV, List.mem_cons, List.not_mem_nil, or_false] at hu; rcases hu with rfl | rfl | rfl <;> rfl
            case d3 => unfold maxLen; simp at hlp; omega
            case d4 => simp at hlp; omega
            case d5 => simp; omega
            intro v5 w5 hown5 hg5 h05
            have hbx5 := heap_grown (heap_more hbx4 _) hg5 (own_ne2 hown4 hbx4)
            obtain ⟨dc0, dc1, dc2⟩ := cells3 hbx5
            have HB5 := (HB4.alloc (by omega) _).grownOwn (hown4.alloc _) hg5 (by simp; omega) (Nat.le_refl _)
            have hS5 := Lib.hid (hSt _ _ _ _ (hSb _ _ _ hS3.out (((below_a1 hb4)).trans ((Below.refl _ _).alloc (by have := hb4.size; simp at this; omega) _))) hg5 (fun b hb => ⟨by have := ((hown4.alloc (.cells #[.bool true, .string (B nMark), .string (B E)] 54)).lt b hb).1; omega, own_type (hown4.alloc _) b hb⟩))
            have Hown5 := Lib.hid hown5
            clear hown5 h05 hown4 hg5 hbx4 hbx5 hbx3 cc0 cc1 cc2 bc0 bc1 bc2
            go_wp2_with fail
            go_roundw
            case rel =>
              refine ⟨acc ++ (p :: ps) ++ [mk E], k + (T.length + E.length), fu', st', by omega, by simp, ?_, by omega, ?_, ?_, ?_, hS5.out, HB5⟩
              · rw [Hy.out]; simp [endP, HE.out]
              · simp at hlp ⊢; omega
              · have := Hown5.out; simp only [List.length_append, List.flatMap_append, List.length_cons, List.length_nil, List.flatMap_cons, List.flatMap_nil, List.append_nil, List.append_assoc, Nat.zero_add] at this ⊢; exact this
              · intro h; simp at h
            case measure => simp [intOf]; omega
    · have hk2 : k = s.size := by omega
      have he : walkS f st0 (linesL s.data.toList) = .inl acc := by rw [hl, List.drop_of_length_le (by omega), linesF_nil]; simp [walkS, pre]
      have He := Lib.hid he
      have Hown := Lib.hid hown
      have H0 := Lib.hid h0
      clear hl he hk2 hown h0 hKr
      go_wp2_with fail
      refine bodyPost_ret (v := .tuple #[_, .agg #[.int .i64 0, .int .i64 0]]) (by simp [results, Tryd.results11, go_sem, fc0, fc1]; rfl) rfl ?_
      rw [← hP]
      have HBf := (((((But.refl C _ w).alloc (Nat.le_refl _) _).trans (hb.mono (by omega))).setCell (p := ⟨w.heap.size, 0, none⟩) (.inl (Nat.le_refl _)) (.int .i64 0)).setCell (p := ⟨w.heap.size, 1, none⟩) (.inl (Nat.le_refl _)) (.int .i64 0))
      refine ⟨_, 0, 0, rfl, .inl ⟨acc, He.out, ?_, fresh_own Hown.out (by omega), rfl, rfl⟩, HBf⟩
      exact (Rows3.of_own rfl Hown.out H0.out).set2 Hown.out (p := ⟨w.heap.size, 0, none⟩) (q := ⟨w.heap.size, 1, none⟩) (by simp) (by simp) _ _
end Go.Proofs.YtlcgfgbdehdndaaDoor
