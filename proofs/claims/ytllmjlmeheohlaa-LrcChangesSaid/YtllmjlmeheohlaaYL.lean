/- Contracts of lrc.Pieces and Parse; condition: at most 100,000 bytes. -/
import Derived.Test.YtllmjlmeheohlaaYK
import Derived.Test.YtllmjlmeheohlaaYGL
set_option maxRecDepth 100000
set_option maxHeartbeats 4000000
namespace Go.Proofs.Ytllmjlmeheohlaa
open Go Go.RowKit

def nText : List UInt8 := [116, 101, 120, 116]
def timesF : Nat → List UInt8 → List Pc × List UInt8
  | 0, r => ([], r)
  | f + 1, r => if timeN r = 0 then ([], r) else (mk (r.take (timeN r)) :: (timesF f (r.drop (timeN r))).1, (timesF f (r.drop (timeN r))).2)
def tailP (r : List UInt8) : List Pc := if r = [] then [] else [(false, nText, r)]
/-- A line's pieces; none: it has no form. -/
def lrcL (s : List UInt8) : Option (List Pc) :=
  if s = [] then some [] else if (timesF s.length s).1 = [] then noteL s else some ((timesF s.length s).1 ++ tailP (timesF s.length s).2)
theorem timesF_end (f : Nat) (r : List UInt8) (h : timeN r = 0) : timesF f r = ([], r) := by
  cases f with
  | zero => rfl
  | succ f => simp [timesF, h]
def PsRel (t : List UInt8) (w0 : World) (v rest n : Value) (wr : World) : Prop := ∃ (acc : List Pc) (rb : ByteArray) (f : Nat), rest = .string rb ∧ n = .int .i64 (timeN rb.data.toList) ∧ timesF t.length t = (acc ++ (timesF f rb.data.toList).1, (timesF f rb.data.toList).2) ∧ rb.size ≤ f ∧ acc.length + rb.size ≤ t.length ∧ wr.ownsRow w0.heap.size 43 3 v acc.length (acc.flatMap pcV) ∧ (acc = [] → v = .slice none 0 0) ∧ Below w0.heap.size w0 wr
theorem Pieces_any (s : ByteArray) (hs : s.size ≤ 100000) (w : World) :
    Calls Try.prog 10 #[.string s] w (PcPost lrcL s.data.toList w) := by
  generalize hP : PcPost lrcL s.data.toList w = P at *
  have hlen := len_data s
  obtain ⟨i0, hi, iz0, iz1, iz2⟩ := info_parts piece_info
  by_cases hne : s.size = 0
  · have hE : s.data.toList = [] := List.eq_nil_of_length_eq_zero (by omega)
    have hem : s.toList.isEmpty = true := by rw [ByteArray.toList_eq, hE]; rfl
    have Hr := Lib.hid (show lrcL s.data.toList = some [] by rw [hE]; rfl)
    clear hE hne hlen
    go_enter Try.func10, Try.ntmps10
    go_wp2_with fail
    show P (.returned (.tuple #[.slice none 0 0, .bool true])) _
    rw [← hP]
    exact ⟨_, by rw [Hr.out]; rfl, by rw [Hr.out]; exact .inl ⟨rfl, rfl⟩, Below.refl _ _⟩
  · have hem : s.toList.isEmpty = false := by
      rw [ByteArray.toList_eq]
      generalize s.data.toList = l at *
      cases l with
      | nil => simp at hlen; omega
      | cons _ _ => rfl
    have hE : s.data.toList ≠ [] := by intro e; rw [e] at hlen; simp at hlen; omega
    have hL : lrcL s.data.toList = if (timesF s.data.toList.length s.data.toList).1 = [] then noteL s.data.toList else some ((timesF s.data.toList.length s.data.toList).1 ++ tailP (timesF s.data.toList.length s.data.toList).2) := by
      unfold lrcL; rw [if_neg hE]
    have HL := Lib.hid hL
    have hmo := fun (b : ByteArray) (hb : b.size ≤ 100000) w => moment_any b hb w
    clear hL hE hne
    go_enter Try.func10, Try.ntmps10
    go_wp2_with (go_at_call 29; refine (hmo s hs _).mono ?_; rintro e w1 ⟨rfl, hb1⟩)
    go_loopw [4, 5, 6] (fun v rest n wr => PsRel s.data.toList w v rest n wr) (fun _ rest _ _ => match rest with | .string b => b.size | _ => 0)
    case atStart => exact ⟨[], s, s.data.toList.length, rfl, rfl, by simp, by omega, by simp, ⟨rfl, .inl ⟨rfl, rfl⟩⟩, fun _ => rfl, hb1⟩
    case round =>
      obtain ⟨acc, rb, f, rfl, rfl, htf, hf, ha, hown, h0, hb⟩ := hrel
      rw [hlen] at ha
      have hlr := len_data rb
      have hrng := timeN_rng rb.data.toList
      rw [hlr] at hrng
      by_cases hz : timeN rb.data.toList = 0
      · have htf2 := htf
        rw [timesF_end f _ hz, List.append_nil] at htf2
        have Htf := Lib.hid htf2
        rw [hz]
        clear htf htf2 hz hrng
        by_cases hacc : acc = []
        · have hv := h0 hacc
          have Hres := Lib.hid (show lrcL s.data.toList = noteL s.data.toList by rw [HL.out, Htf.out, if_pos hacc])
          have hno := fun w => note_any s hs w
          unfold PcPost at hno
          subst hv
          clear HL Htf h0 hown hacc hmo
          go_wp2_with (go_at_call 31; refine (hno _).mono ?_; rintro e w2 ⟨v, rfl, hv, hb2⟩)
          show P (.returned (.tuple #[v, .bool (noteL s.data.toList).isSome])) _
          rw [← hP]
          exact ⟨v, by rw [Hres.out], by rw [Hres.out]; exact hv, hb.trans (hb2.mono hb.size)⟩
        · have hln : 0 < acc.length := List.length_pos_iff.2 hacc
          have Hres := Lib.hid (show lrcL s.data.toList = some (acc ++ tailP rb.data.toList) by rw [HL.out, Htf.out, if_neg hacc])
          obtain ⟨A, c, rfl, hc, hrd⟩ := Reads.of_own hown
          have hl0 : ((acc.length : Int) == 0) = false := by rw [beq_eq_false_iff_ne]; omega
          by_cases hrb : rb.size = 0
          · have hre : rb.data.toList = [] := List.eq_nil_of_length_eq_zero (by omega)
            have hem2 : rb.toList.isEmpty = true := by rw [ByteArray.toList_eq, hre]; rfl
            have Hown := Lib.hid hown
            have Hre := Lib.hid hre
            clear HL Htf h0 hown hmo hre hrd
            go_wp2_with fail
            show P (.returned (.tuple #[.slice A acc.length c, .bool true])) _
            rw [← hP]
            refine ⟨_, by rw [Hres.out]; rfl, ?_, hb⟩
            rw [Hres.out, Hre.out]
            simp only [tailP, if_true, List.append_nil, Option.getD_some]
            exact Rows3.of_own rfl Hown.out (fun e => absurd e hacc)
          · have hem2 : rb.toList.isEmpty = false := by
              rw [ByteArray.toList_eq]
              generalize rb.data.toList = l at *
              cases l with
              | nil => simp at hlr; omega
              | cons _ _ => rfl
            have hre : rb.data.toList ≠ [] := by intro e; rw [e] at hlr; simp at hlr; omega
            have Hown := Lib.hid hown
            have Hre := Lib.hid hre
            have hz1 := hb.size
            clear HL Htf h0 hmo hre hrd hrb
            go_wp2_with (first | (go_at_call 19; refine (Text_any _ _ _).mono ?_; rintro e w2 ⟨rfl, hb2⟩; have hz2 := hb2.size; have hown2 := own_below Hown.out hb2; have hB2 := hb.trans (hb2.mono hz1)) | (at_builtin; refine wpList_append_own _ rfl _ _ 23 rfl w.heap.size 43 i0 _ 3 40 Try.underlying23 hi iz0 iz1 iz2 rfl (by decide) _ _ _ rfl (hown2.alloc _) ⟨w2.heap.size, 0, none⟩ 1 1 [.bool false, .string ⟨#[116, 101, 120, 116]⟩, .string rb] rfl rfl ?d1 ?d2 ?d3 ?d4 ?d5 ?_))
            case d1 => exact three_new w2 _ _ _ _
            case d2 => intro u hu; simp only [List.mem_cons, List.not_mem_nil, or_false] at hu; rcases hu with rfl | rfl | rfl <;> rfl
            case d3 => unfold maxLen; omega
            case d4 => omega
            case d5 => simp; omega
            intro v3 w3 hown3 hg3 h03
            have hB3 := below_grownOwn (hB2.alloc (by omega) _) (hown2.alloc _) hg3 (by simp; omega) (Nat.le_refl _)
            have Hown3 := Lib.hid hown3
            clear hown3 h03 hown2 hg3
            go_wp2_with fail
            show P (.returned (.tuple #[v3, .bool true])) _
            rw [← hP]
            refine ⟨_, by rw [Hres.out]; rfl, ?_, hB3⟩
            rw [Hres.out]
            have e : tailP rb.data.toList = [(false, nText, rb.data.toList)] := if_neg Hre.out
            rw [e]
            refine Rows3.of_own (base := w.heap.size) (e := 43) (n := acc.length + 1) (by simp) ?_ (fun e => by simp at e)
            have := Hown3.out
            simp only [List.flatMap_append, List.flatMap_cons, List.flatMap_nil, List.append_nil, Option.getD_some]
            rw [show pcV (false, nText, rb.data.toList) = [.bool false, .string ⟨#[116, 101, 120, 116]⟩, .string rb] by unfold pcV; rw [← B_of]; rfl]
            exact this
      · obtain ⟨f', rfl⟩ : ∃ f', f = f' + 1 := ⟨f - 1, by omega⟩
        have htf2 : timesF s.data.toList.length s.data.toList = ((acc ++ [mk (rb.data.toList.take (timeN rb.data.toList))]) ++ (timesF f' (rb.data.toList.drop (timeN rb.data.toList))).1, (timesF f' (rb.data.toList.drop (timeN rb.data.toList))).2) := by
          rw [htf, timesF, if_neg hz, List.append_assoc]; rfl
        have hx1 := ext_take rb 0 (timeN rb.data.toList)
        rw [List.drop_zero, Nat.zero_add] at hx1
        have hx2 : (rb.extract (timeN rb.data.toList) rb.size).data.toList = rb.data.toList.drop (timeN rb.data.toList) := by
          rw [ext_data, List.take_of_length_le (by omega)]
        rw [← hx2] at htf2
        have hmo2 := fun w => hmo (rb.extract (timeN rb.data.toList) rb.size) (by simp; omega) w
        rw [hx2] at hmo2
        have HX2 := Lib.hid hx2
        have hsz2 : (rb.extract (timeN rb.data.toList) rb.size).size = rb.size - timeN rb.data.toList := by simp
        have htk : (rb.data.toList.take (timeN rb.data.toList)).length ≤ 100000 := by rw [List.length_take]; omega
        have hne : timeN rb.data.toList ≠ 0 := hz
        have HT := Lib.hid htf2
        have HX := Lib.hid hx1
        clear htf htf2 hx1 hx2 hmo hz hlr
        generalize timeN rb.data.toList = n at *
        generalize rb.data.toList.take n = m at *
        have hnn : 7 ≤ n ∧ n ≤ 11 ∧ n ≤ rb.size := by omega
        obtain ⟨n1, n2, n3⟩ := hnn
        clear hrng hne
        have hz1 := hb.size
        have hmk := Mark_one wr.heap.size (rb.extract 0 n) (wr.alloc (.cells #[.string (rb.extract 0 n)] 9)) (newA wr _ _) (by simp; omega)
        have hnw := fun w' => newA w' (.string (rb.extract 0 n)) 9
        go_wp2_with (first | (go_at_call 30; refine hmk.mono ?_; rintro e w2 ⟨rfl, hb2⟩; have hz2 := sz_a1 hb2; have hown2 := own_below (hown.alloc _) hb2; have hB2 := (hb.alloc hz1 _).trans (hb2.mono (by simp; omega))) | (at_builtin; refine wpList_append_own _ rfl _ _ 23 rfl w.heap.size 43 i0 _ 3 40 Try.underlying23 hi iz0 iz1 iz2 rfl (by decide) _ _ _ rfl (hown2.alloc _) ⟨w2.heap.size, 0, none⟩ 1 1 [.bool true, .string (B nMark), .string (rb.extract 0 n)] rfl rfl ?d1 ?d2 ?d3 ?d4 ?d5 ?_))
        case d1 => exact three_new w2 _ _ _ _
        case d2 => intro u hu; simp only [List.mem_cons, List.not_mem_nil, or_false] at hu; rcases hu with rfl | rfl | rfl <;> rfl
        case d3 => unfold maxLen; omega
        case d4 => omega
        case d5 => simp; omega
        intro v3 w3 hown3 hg3 h03
        have hB3 := below_grownOwn (hB2.alloc (by omega) _) (hown2.alloc _) hg3 (by simp; omega) (Nat.le_refl _)
        have hz3 := hB3.size
        rw [HX.out] at hown3
        have Hown3 := Lib.hid hown3
        clear hown3 h03 hown2 hg3 hmk
        go_wp2_with (go_at_call 29; refine (hmo2 _).mono ?_; rintro e w4 ⟨rfl, hb4⟩)
        go_roundw
        case rel =>
          refine ⟨acc ++ [mk m], rb.extract n rb.size, f', rfl, by rw [HX2.out], HT.out, by omega, by simp; omega, ?_, fun e => by simp at e, hB3.trans (hb4.mono hB3.size)⟩
          have := own_below Hown3.out hb4
          simp only [List.length_append, List.flatMap_append, List.length_cons, List.length_nil, List.flatMap_cons, List.flatMap_nil, List.append_nil, Nat.zero_add] at this ⊢
          exact this
        case measure => simp; omega
theorem lrc_len (f : Nat) : ∀ r : List UInt8, (timesF f r).1.length + (timesF f r).2.length ≤ r.length := by
  induction f with
  | zero => intro r; simp [timesF]
  | succ f ih =>
    intro r
    unfold timesF
    by_cases h : timeN r = 0
    · rw [if_pos h]; simp
    · rw [if_neg h]
      have h1 := ih (r.drop (timeN r))
      have h2 := timeN_rng r
      rw [List.length_drop] at h1
      simp only [List.length_cons]
      omega
theorem lrcL_len (s : List UInt8) (ps : List Pc) (h : lrcL s = some ps) : ps.length ≤ 4 * s.length + 4 := by
  unfold lrcL at h
  split at h
  · simp only [Option.some.injEq] at h; subst h; simp
  · split at h
    · unfold noteL at h
      split at h
      · simp only [Option.some.injEq] at h; subst h; simp
      · cases h
    · simp only [Option.some.injEq] at h
      subst h
      have := lrc_len s.length s
      rw [List.length_append]
      unfold tailP
      split <;> simp <;> omega
theorem Parse_any (s : ByteArray) (hs : s.size ≤ 100000) (w : World) :
    Calls Try.prog 17 #[.string s] w (WkPost lrcL s.data.toList w) := by
  generalize hP : WkPost lrcL s.data.toList w = P at *
  have hw := fun w => Walk_lrc lrcL (fun _ => True) (fun _ _ _ _ => trivial) (fun s w h _ => by
    have := Pieces_any (B s) (by rw [B_size]; exact h) w
    rw [B_data] at this
    exact this) lrcL_len s hs w trivial
  go_enter Try.func17, Try.ntmps17
  go_wp2_with (go_at_call 38; refine (hw _).mono ?_; rintro e w1 ⟨v, x, a, rfl, hr, hb1⟩; have hz1 := sz_a1 hb1; obtain ⟨c0, c1, f0, f1, hlt⟩ := box2 (hb1.mono (by simp)))
  refine bodyPost_ret (v := .tuple #[v, .agg #[.int .i64 x, .int .i64 a]]) (by simp [results, Try.results17, go_sem, c0, c1]) rfl ?_
  rw [← hP]
  refine ⟨v, x, a, rfl, ?_, ((below_a1 hb1).setCell (Nat.le_refl _) _).setCell (Nat.le_refl _) _⟩
  exact ((hr.set (p := ⟨w.heap.size, 0, none⟩) (by simp) _).set (p := ⟨w.heap.size, 1, none⟩) (by simp) _).more (by simp)
end Go.Proofs.Ytllmjlmeheohlaa
