/- Contract of wide.Encode for texts that are made of signs, and for others; conditions: the tables of utf8 lie as laid, fewer than 2^45 bytes. -/
import Derived.Test.YtblcknhkjkcmjaaDoorW3
set_option maxRecDepth 100000
set_option maxHeartbeats 1000000
namespace Go.Proofs.YtblcknhkjkcmjaaDoor
open Go Go.RowKit

theorem and1023 {x : Int} (h0 : 0 ≤ x) (h1 : x < 1048576) : bits .and .i32 x 1023 = x % 1024 :=
  bits_mask .i32 31 (by decide) wraps_i32 10 (by decide) x h0 (by omega)
theorem wtextZ_len4 (big : Bool) (ps : List Int) : (wtextZ big ps).length ≤ 4 * ps.length := by
  have h := (len_wtext big ps).2
  rw [← wtextZ_bytes, List.length_map] at h
  exact h
def EncRel (big : Bool) (ps : List Int) (s : ByteArray) (w0 : World) (O : Obj) (K : Nat) (v : Value) (wr : World) : Prop :=
  ∃ k i : Nat, Run ps k i ∧ wr.heap[K]? = some (.stringIter s i) ∧ wr.ownsRow (w0.heap.size + 1) 5 1 v (wtextZ big (ps.take k)).length ((wtextZ big (ps.take k)).map (Value.int .u8)) ∧ Below (w0.heap.size + 1) (w0.alloc O) wr

theorem WEncode_good (big : Bool) (s : ByteArray) (ps : List Int) (hg : Good s ps) (hs : s.size ≤ 35184372088000) (w : World) (hT : Tabs w) :
    Calls Tryd.prog 28 #[.string s, .bool big] w fun e w' => e = .returned (.tuple #[.string ⟨(wtext big ps).toArray⟩, .agg #[.int .i64 0, .int .i64 0]]) ∧ Below w.heap.size w w' := by
  have hlen := hg.len
  have hp := hg.pre
  go_enter Tryd.func28, Tryd.ntmps28
  go_wp2_with (go_at_call 58; refine (Check_good s ps hg (by omega) _ (by first | exact hT | exact tabs_alloc hT _)).mono ?_; rintro e w1 ⟨rfl, hb1⟩; have hz1 := sz_a1 hb1; have HB1 := hb1.mono (B' := w.heap.size + 1) (by simp); obtain ⟨hc0, hc1, hf0, hf1, hlt1⟩ := box2 HB1)
  refine (Bad_any _ _ _).mono ?_
  rintro e w2 ⟨rfl, hb2⟩
  have hz2 := sz_a1 hb2
  have HB2 := (HB1.alloc (by omega) _).trans (hb2.mono (by simp; omega))
  have hit := World.iter_heap w2 s 0
  have hit2 : (w2.alloc (.stringIter s 0)).heap.size = w2.heap.size + 1 := by simp
  have hBi := HB2.alloc (o := .stringIter s 0) (by omega)
  clear hb1 hc0 hc1 hf0 hf1 hlt1 hb2 HB1
  go_wp2_with fail
  go_loopw [7] (fun v wr => EncRel big ps s w (.cells #[.int .i64 0, .int .i64 0] 44) w2.heap.size v wr) (fun _ wr => s.size + 1 - wr.iterPos w2.heap.size)
  case atStart => exact ⟨0, 0, Run.zero _, hit, World.ownsRow_nil _ _ _ _, hBi⟩
  case round =>
    obtain ⟨k, i, hrun, hK, hownk, hbk⟩ := hrel
    have hle := hrun.le hp
    have hKlt := iter_lt hK
    have h4k := wtextZ_len4 big (ps.take k)
    rw [List.length_take] at h4k
    by_cases hk : k < ps.length
    · obtain ⟨p, n, hst, hrun', hn1, hn4, hin, hp0, hp1, _⟩ := hrun.step hp hk
      have hstep := fun ty => next_step (P := Tryd.prog) hst (by omega) wr w2.heap.size hK ty
      have hown1 := own_iterAt hownk hK (i + n)
      have hK1 := Lib.iterAt_heap wr w2.heap.size s i (i + n) hK
      have hb1 := Lib.below_iterAt hbk (k := w2.heap.size) (by omega) s (i + n)
      have hsz1 : (wr.iterAt w2.heap.size s (i + n)).heap.size = wr.heap.size := Lib.iterAt_size _ _ _ _
      have hpos := iterPos_of hK
      have hsc := hst.2.2.2
      have hnext : Hid ((wtextZ big (ps.take (k + 1))).map (Value.int .u8) = (wtextZ big (ps.take k)).map (Value.int .u8) ++ (wencZ big p).map (Value.int .u8)) := by
        rw [hst.snoc hk, wtextZ_snoc, List.map_append]; rfl
      have hnextl : Hid ((wtextZ big (ps.take (k + 1))).length = (wtextZ big (ps.take k)).length + (wencZ big p).length) := by
        rw [hst.snoc hk, wtextZ_snoc, List.length_append]; rfl
      have hcap : (wtextZ big (ps.take k)).length + 4 ≤ 140737488355328 := by omega
      rw [scalarB_iff] at hsc
      clear h4k
      generalize hW : wr.iterAt w2.heap.size s (i + n) = W at *
      have hWB : w.heap.size + 1 ≤ W.heap.size := by omega
      by_cases hlow : p < 65536
      · have hj := Join_one big p ⟨hp0, hlow⟩ W.heap.size 1 (w.heap.size + 1) _ _ _ (W.alloc (.cells #[.int .i32 p] 21)) (hown1.alloc _) (cell_one_new W (.int .i32 p) 21 0 _ rfl) (by omega) (by simp; omega)
        rw [hsz1] at hj
        have hez : Hid (wencZ big p = twoZ big p) := if_pos hlow
        have hbW := hb1.alloc (o := .cells #[.int .i32 p] 21) hWB
        have hKW := KeepIter.alloc W (.cells #[.int .i32 p] 21) _ _ _ hK1
        go_wp2_with (go_at_call 59; refine hj.mono ?_; rintro e w5 ⟨v', rfl, hown5, hb5, hk5⟩)
        have hK5 := hk5 _ _ _ hKW
        have hb6 := hbW.trans hb5
        rw [← hez.out, ← hnext.out] at hown5
        have hl2 : (wtextZ big (ps.take k)).length + 2 = (wtextZ big (ps.take (k + 1))).length := by
          rw [hnextl.out, hez.out]; unfold twoZ; split <;> rfl
        rw [hl2] at hown5
        refine ⟨⟨k + 1, i + n, hrun', hK5, hown5, hb6⟩, ?_⟩
        rw [hpos, iterPos_of hK5]
        omega
      · have hr0 : 0 ≤ p - 65536 := by omega
        have hr1 : p - 65536 < 1048576 := by omega
        have hand := and1023 hr0 hr1
        have hj := Join_two big (55296 + (p - 65536) / 1024) (56320 + (p - 65536) % 1024) (by omega) (by omega) W.heap.size 2 (w.heap.size + 1) _ _ _ (W.alloc (.cells #[.int .i32 (55296 + (p - 65536) / 1024), .int .i32 (56320 + (p - 65536) % 1024)] 21)) (hown1.alloc _) (cell_two_new W _ _ 21 0 _ rfl) (cell_two_new W _ _ 21 1 _ rfl) (fun h => by have := own_lt hown1 h; omega) (by omega) (by simp; omega)
        rw [hsz1] at hj
        have hez : Hid (wencZ big p = twoZ big (55296 + (p - 65536) / 1024) ++ twoZ big (56320 + (p - 65536) % 1024)) := if_neg hlow
        have hbW := hb1.alloc (o := .cells #[.int .i32 (55296 + (p - 65536) / 1024), .int .i32 (56320 + (p - 65536) % 1024)] 21) hWB
        have hKW := KeepIter.alloc W (.cells #[.int .i32 (55296 + (p - 65536) / 1024), .int .i32 (56320 + (p - 65536) % 1024)] 21) _ _ _ hK1
        go_wp2_with (go_at_call 59; refine hj.mono ?_; rintro e w5 ⟨v', rfl, hown5, hb5, hk5⟩)
        have hK5 := hk5 _ _ _ hKW
        have hb6 := hbW.trans hb5
        rw [List.append_assoc, ← List.map_append, ← hez.out, ← hnext.out] at hown5
        have hl2 : (wtextZ big (ps.take k)).length + 2 + 2 = (wtextZ big (ps.take (k + 1))).length := by
          rw [hnextl.out, hez.out]; unfold twoZ; split <;> rfl
        rw [hl2] at hown5
        refine ⟨⟨k + 1, i + n, hrun', hK5, hown5, hb6⟩, ?_⟩
        rw [hpos, iterPos_of hK5]
        omega
    · have hk2 : k = ps.length := by omega
      subst hk2
      obtain ⟨hi, _, hie⟩ := hrun.end_ hp
      have hend := fun ty => Lib.run_next_end_at (P := Tryd.prog) wr w2.heap.size s i ty hK (by simp at hie; omega)
      obtain ⟨hc0, hc1, hf0, hf1, hlt1⟩ := box2 hbk
      rw [List.take_length] at hownk
      have hconv := conv_own (P := Tryd.prog) 37 9 5 Tryd.underlying37 Tryd.underlying5 Tryd.underlying9 wr hownk
      rw [strOfNums_wtext] at hconv
      clear h4k
      go_wp2_with fail
      refine bodyPost_ret (v := .tuple #[.string ⟨(wtext big ps).toArray⟩, .agg #[.int .i64 0, .int .i64 0]]) (by simp [results, Tryd.results28, go_sem, hc0, hc1]) rfl ⟨rfl, ?_⟩
      exact (((((Below.refl _ w).alloc (Nat.le_refl _) _).trans (hbk.mono (by omega))).setCell (Nat.le_refl _) _).setCell (Nat.le_refl _) _)

theorem WEncode_bad (big : Bool) (s : ByteArray) (n : Nat) (hg : BadAt s n) (hs : s.size ≤ 35184372088000) (w : World) (hT : Tabs w) :
    Calls Tryd.prog 28 #[.string s, .bool big] w fun e w' => e = .returned (.tuple #[.string ⟨#[]⟩, .agg #[.int .i64 2, .int .i64 n]]) ∧ Below w.heap.size w w' := by
  go_enter Tryd.func28, Tryd.ntmps28
  go_wp2_with (go_at_call 58; refine (Check_bad s n hg (by omega) _ (by first | exact hT | exact tabs_alloc hT _)).mono ?_; rintro e w1 ⟨rfl, hb1⟩; have hz1 := sz_a1 hb1; have HB1 := hb1.mono (B' := w.heap.size + 1) (by simp); obtain ⟨hc0, hc1, hf0, hf1, hlt1⟩ := box2 HB1)
  refine (Bad_any _ _ _).mono ?_
  rintro e w2 ⟨rfl, hb2⟩
  have hz2 := sz_a1 hb2
  have HB2 := (HB1.alloc (by omega) _).trans (hb2.mono (by simp; omega))
  have hbx := box2 (hb2.mono (by simp))
  obtain ⟨hd0, hd1, he0, he1, hlt2⟩ := hbx
  clear hc0 hc1 hf0 hf1
  obtain ⟨hc0, hc1, hf0, hf1, hlt3⟩ := box2 HB2
  go_wp2_with fail
  go_region
  go_wp2_with fail
  refine bodyPost_ret (v := .tuple #[.string ⟨#[]⟩, .agg #[.int .i64 2, .int .i64 n]]) (by simp [results, Tryd.results28, go_sem, hc0, hc1]) rfl ⟨rfl, ?_⟩
  exact (((((Below.refl _ w).alloc (Nat.le_refl _) _).trans (HB2.mono (by omega))).setCell (Nat.le_refl _) _).setCell (Nat.le_refl _) _).drew
end Go.Proofs.YtblcknhkjkcmjaaDoor
