/- Contracts of wide.Mark, wide.Marked, wide.WithMark; conditions: the tables of utf8 lie as laid, fewer than 2^45 bytes. -/
import Derived.Test.YtblcknhkjkcmjaaDoorW4
set_option maxRecDepth 100000
set_option maxHeartbeats 1000000
namespace Go.Proofs.YtblcknhkjkcmjaaDoor
open Go Go.RowKit

def isBig (l : List UInt8) : Bool := l.take 2 == [254, 255]
def isMark (l : List UInt8) : Bool := l.take 2 == [254, 255] || l.take 2 == [255, 254]
theorem short_mark (s : ByteArray) (h : ¬ 1 < s.size) : isBig s.data.toList = false ∧ isMark s.data.toList = false := by
  have hl : s.data.toList.length = s.size := by simp
  generalize s.data.toList = l at *
  match l, hl with
  | [], _ => decide
  | [x], _ => simp [isBig, isMark]
  | _ :: _ :: _, h => simp at h; omega
theorem extract_two (s : ByteArray) : (s.extract 0 2).toList = s.data.toList.take 2 := by
  rw [ByteArray.toList_eq]
  simp [ByteArray.data_extract, Array.toList_extract, List.extract]

theorem Mark_any (s : ByteArray) (hs : s.size ≤ 140737488355328) (w : World) :
    Calls Tryd.prog 32 #[.string s] w fun e w' => e = .returned (.tuple #[.bool (isBig s.data.toList), .bool (isMark s.data.toList)]) ∧ Below w.heap.size w w' := by
  by_cases h2 : 1 < s.size
  · have hx := Lib.hid (extract_two s)
    go_enter Tryd.func32, Tryd.ntmps32
    go_wp2_with fail
    all_goals go_ret2
    all_goals refine ⟨?_, Below.refl _ _⟩
    all_goals rename_i hq
    all_goals rw [hx.out] at hq
    · simp [isBig, isMark, hq]
    · simp only [isBig, isMark, hx.out]
      rfl
  · obtain ⟨e1, e2⟩ := short_mark s h2
    have H1 := Lib.hid e1
    have H2 := Lib.hid e2
    clear e1 e2
    rw [H1.out, H2.out]
    go_enter Tryd.func32, Tryd.ntmps32
    go_wp2_with fail
    go_ret2
    exact ⟨rfl, Below.refl _ _⟩

theorem size_alloc' (w : World) (o : Obj) : (w.alloc o).heap.size = w.heap.size + 1 := by simp
theorem Marked_empty (w : World) :
    Calls Tryd.prog 33 #[.string ⟨#[]⟩] w fun e w' => e = .returned (.tuple #[.string ⟨#[]⟩, .agg #[.int .i64 0, .int .i64 0]]) ∧ Below w.heap.size w w' := by
  go_enter Tryd.func33, Tryd.ntmps33
  go_wp2_with fail
  refine bodyPost_ret (v := .tuple #[.string ⟨#[]⟩, .agg #[.int .i64 0, .int .i64 0]]) (by simp [results, Tryd.results33, go_sem]) rfl ⟨rfl, ?_⟩
  exact (Below.refl w.heap.size w).alloc (Nat.le_refl _) _
theorem not_empty (s : ByteArray) (h0 : 0 < s.size) : s.toList.isEmpty = false := by
  rw [ByteArray.toList_eq]
  have hl : s.data.toList.length = s.size := by simp
  generalize s.data.toList = l at *
  match l, hl with
  | [], hl => simp at hl; omega
  | _ :: _, _ => rfl
theorem Marked_no (s : ByteArray) (h0 : 0 < s.size) (hs : s.size ≤ 35184372088000) (hm : isMark s.data.toList = false) (w : World) :
    Calls Tryd.prog 33 #[.string s] w fun e w' => e = .returned (.tuple #[.string ⟨#[]⟩, .agg #[.int .i64 2, .int .i64 0]]) ∧ Below w.heap.size w w' := by
  have hk := fun w => Mark_any s (by omega) w
  rw [hm] at hk
  have hne := not_empty s (by omega)
  go_enter Tryd.func33, Tryd.ntmps33
  go_wp2_with (go_at_call 32; refine (hk _).mono ?_; rintro e w1 ⟨rfl, hb1⟩; have hz1 := sz_a1 hb1; obtain ⟨hc0, hc1, hf0, hf1, hlt1⟩ := box2 (hb1.mono (by simp)))
  refine bodyPost_ret (v := .tuple #[.string ⟨#[]⟩, .agg #[.int .i64 2, .int .i64 0]]) (by simp [results, Tryd.results33, go_sem, hc0, hc1]) rfl ⟨rfl, ?_⟩
  exact ((((Below.refl _ w).alloc (Nat.le_refl _) _).trans (hb1.mono (by simp))).setCell (Nat.le_refl _) _).setCell (Nat.le_refl _) _

theorem isMark_size {s : ByteArray} (h : isMark s.data.toList = true) : 2 ≤ s.size := by
  by_cases h2 : 1 < s.size
  · exact h2
  · rw [(short_mark s h2).2] at h; cases h
/-- What stands behind the mark. -/
def behind (s : ByteArray) : ByteArray := s.extract 2 s.size
theorem behind_size (s : ByteArray) : (behind s).size = s.size - 2 := by simp [behind]

theorem Marked_good (s : ByteArray) (ps : List Int) (hm : isMark s.data.toList = true) (hp : WGood (isBig s.data.toList) (behind s) ps) (hs : s.size ≤ 35184372088000) (w : World) :
    Calls Tryd.prog 33 #[.string s] w fun e w' => e = .returned (.tuple #[.string ⟨(textL ps).toArray⟩, .agg #[.int .i64 0, .int .i64 0]]) ∧ Below w.heap.size w w' := by
  have h2 := isMark_size hm
  have hk := fun w => Mark_any s (by omega) w
  rw [hm] at hk
  have hd := fun w => WDecode_good (isBig s.data.toList) (behind s) ps hp (by rw [behind_size s]; omega) w
  unfold behind at hd
  have hne := not_empty s (by omega)
  clear hp
  generalize isBig s.data.toList = big at *
  go_enter Tryd.func33, Tryd.ntmps33
  go_wp2_with (first | (go_at_call 32; refine (hk _).mono ?_; rintro e w1 ⟨rfl, hb1⟩; have hz1 := sz_a1 hb1; have HB1 := hb1.mono (B' := w.heap.size + 1) (by simp)) | (go_at_call 25; refine (hd _).mono ?_; rintro e w2 ⟨rfl, hb2⟩; have HB2 := HB1.trans (hb2.mono hz1); have hz2 := HB2.size))
  refine (Bad_any _ _ _).mono ?_
  rintro e w3 ⟨rfl, hb3⟩
  simp only [size_alloc'] at hz2
  have hz3 := sz_a1 hb3
  obtain ⟨hd0, hd1, he0, he1, hlt2⟩ := box2 (hb3.mono (by simp))
  have HB3 := (HB2.alloc (by omega) _).trans (hb3.mono (by simp; omega))
  obtain ⟨hc0, hc1, hf0, hf1, hlt3⟩ := box2 HB3
  go_wp2_with fail
  go_region
  go_wp2_with fail
  refine bodyPost_ret (v := .tuple #[.string ⟨(textL ps).toArray⟩, .agg #[.int .i64 0, .int .i64 0]]) (by simp [results, Tryd.results33, go_sem, hc0, hc1]) rfl ⟨rfl, ?_⟩
  exact (((((Below.refl _ w).alloc (Nat.le_refl _) _).trans (HB3.mono (by omega))).setCell (Nat.le_refl _) _).setCell (Nat.le_refl _) _).drew

theorem Marked_bad (s : ByteArray) (n : Nat) (hm : isMark s.data.toList = true) (hp : WBadAt (isBig s.data.toList) (behind s) n) (hs : s.size ≤ 35184372088000) (w : World) :
    Calls Tryd.prog 33 #[.string s] w fun e w' => e = .returned (.tuple #[.string ⟨#[]⟩, .agg #[.int .i64 2, .int .i64 (n + 2)]]) ∧ Below w.heap.size w w' := by
  have h2 := isMark_size hm
  have hk := fun w => Mark_any s (by omega) w
  rw [hm] at hk
  have hn : n ≤ s.size := by
    obtain ⟨ps, r, h1, h3, _, _⟩ := hp
    have := congrArg List.length h1.1
    rw [List.length_append, ← h3] at this
    have hl : (behind s).data.toList.length = (behind s).size := by simp
    rw [hl, behind_size] at this
    omega
  have hd := fun w => WDecode_bad (isBig s.data.toList) (behind s) n hp (by rw [behind_size s]; omega) w
  unfold behind at hd
  have hne := not_empty s (by omega)
  clear hp
  generalize isBig s.data.toList = big at *
  go_enter Tryd.func33, Tryd.ntmps33
  go_wp2_with (first | (go_at_call 32; refine (hk _).mono ?_; rintro e w1 ⟨rfl, hb1⟩; have hz1 := sz_a1 hb1; have HB1 := hb1.mono (B' := w.heap.size + 1) (by simp)) | (go_at_call 25; refine (hd _).mono ?_; rintro e w2 ⟨rfl, hb2⟩; have HB2 := HB1.trans (hb2.mono hz1); have hz2 := HB2.size))
  refine (Bad_any _ _ _).mono ?_
  rintro e w3 ⟨rfl, hb3⟩
  simp only [size_alloc'] at hz2
  have hz3 := sz_a1 hb3
  obtain ⟨hd0, hd1, he0, he1, hlt2⟩ := box2 (hb3.mono (by simp))
  have HB3 := (HB2.alloc (by omega) _).trans (hb3.mono (by simp; omega))
  obtain ⟨hc0, hc1, hf0, hf1, hlt3⟩ := box2 HB3
  go_wp2_with fail
  go_region
  go_wp2_with fail
  refine bodyPost_ret (v := .tuple #[.string ⟨#[]⟩, .agg #[.int .i64 2, .int .i64 (n + 2)]]) (by simp [results, Tryd.results33, go_sem, hc0, hc1]) rfl ⟨rfl, ?_⟩
  exact ((((((Below.refl _ w).alloc (Nat.le_refl _) _).trans (HB3.mono (by omega))).setCell (p := ⟨w2.heap.size, 1, none⟩) (by simp; omega) _).setCell (p := ⟨w.heap.size, 0, none⟩) (Nat.le_refl _) _).setCell (p := ⟨w.heap.size, 1, none⟩) (Nat.le_refl _) _).drew

theorem join_two (a b : List UInt8) : Lib.join [a, b] [] = a ++ b := by simp [Lib.join]
theorem OJoin_two (a b : ByteArray) (c : Nat) (w : World) (bk : Nat) (h0 : w.cell? ⟨bk, 0, none⟩ = some (.string a)) (h1 : w.cell? ⟨bk, 1, none⟩ = some (.string b)) (hc : 2 ≤ c) (hl : a.size + b.size ≤ 35184372089000) :
    Calls Tryd.prog 104 #[.slice (some ⟨bk, 0, none⟩) 2 c] w fun e w' => e = .returned (.string ⟨(a.data.toList ++ b.data.toList).toArray⟩) ∧ Below w.heap.size w w' := by
  have hj : Calls Tryd.prog 115 #[.slice (some ⟨bk, 0, none⟩) 2 c, .string ⟨#[]⟩] w fun e w' => e = .returned (.string ⟨(a.data.toList ++ b.data.toList).toArray⟩) ∧ Below w.heap.size w w' := by
    have hq := Tryd.strings_Join bk 0 c [a, b] ⟨#[]⟩ w (by
      intro j x hx
      match j, hx with
      | 0, hx => simp at hx; subst hx; exact h0
      | 1, hx => simp at hx; subst hx; exact h1) (cell_lt h0) (by simp) hc (by simp [join_two]; omega)
    simpa [join_two] using hq
  go_enter Tryd.func104, Tryd.ntmps104
  go_wp2_with (go_at_call 115; refine hj.mono ?_; rintro e w1 ⟨rfl, hb1⟩)
  go_ret
  exact ⟨rfl, hb1⟩

theorem WithMark_good (s : ByteArray) (ps : List Int) (hg : Good s ps) (hs : s.size ≤ 8796093022000) (w : World) (hT : Tabs w) :
    Calls Tryd.prog 78 #[.string s] w fun e w' => e = .returned (.tuple #[.string ⟨([255, 254] ++ wtext false ps).toArray⟩, .agg #[.int .i64 0, .int .i64 0]]) ∧ Below w.heap.size w w' := by
  have hlen := hg.len
  have hwl := (len_wtext false ps).2
  have hbs : (⟨(wtext false ps).toArray⟩ : ByteArray).size = (wtext false ps).length := rfl
  have hbd : (⟨(wtext false ps).toArray⟩ : ByteArray).data.toList = wtext false ps := rfl
  have hE := fun (w : World) (hT : Tabs w) => WEncode_good false s ps hg (by omega) w hT
  generalize hX : (⟨(wtext false ps).toArray⟩ : ByteArray) = X at *
  go_enter Tryd.func78, Tryd.ntmps78
  go_wp2_with (go_at_call 28; refine (hE _ (tabs_alloc hT _)).mono ?_; rintro e w1 ⟨rfl, hb1⟩; have hz1 := sz_a1 hb1; have HB1 := hb1.mono (B' := w.heap.size + 1) (by simp))
  refine (Bad_any _ _ _).mono ?_
  rintro e w3 ⟨rfl, hb3⟩
  have hz3 := sz_a1 hb3
  have HB3 := (HB1.alloc (by omega) _).trans (hb3.mono (by simp; omega))
  have hj := fun c hc => OJoin_two ⟨#[255, 254]⟩ X c (w3.alloc (.cells #[.string ⟨#[255, 254]⟩, .string X] 9)) w3.heap.size (cell_two_new w3 _ _ 9 0 _ rfl) (cell_two_new w3 _ _ 9 1 _ rfl) hc (by rw [hbs]; simp [ByteArray.size]; omega)
  go_wp2_with (go_at_call 104; refine (hj _ (by decide)).mono ?_; rintro e w4 ⟨rfl, hb4⟩; have hz4 := sz_a1 hb4; have HB4 := (HB3.alloc (by omega) _).trans (hb4.mono (by simp; omega)); obtain ⟨hc0, hc1, hf0, hf1, hlt3⟩ := box2 HB4)
  refine bodyPost_ret (v := .tuple #[.string ⟨([255, 254] ++ wtext false ps).toArray⟩, .agg #[.int .i64 0, .int .i64 0]]) (by simp [results, Tryd.results78, go_sem, hc0, hc1]) rfl ⟨rfl, ?_⟩
  exact ((((Below.refl _ w).alloc (Nat.le_refl _) _).trans (HB4.mono (by omega))).setCell (Nat.le_refl _) _).setCell (Nat.le_refl _) _

theorem WithMark_bad (s : ByteArray) (n : Nat) (hg : BadAt s n) (hs : s.size ≤ 8796093022000) (w : World) (hT : Tabs w) :
    Calls Tryd.prog 78 #[.string s] w fun e w' => e = .returned (.tuple #[.string ⟨#[]⟩, .agg #[.int .i64 2, .int .i64 n]]) ∧ Below w.heap.size w w' := by
  have hE := fun (w : World) (hT : Tabs w) => WEncode_bad false s n hg (by omega) w hT
  go_enter Tryd.func78, Tryd.ntmps78
  go_wp2_with (go_at_call 28; refine (hE _ (tabs_alloc hT _)).mono ?_; rintro e w1 ⟨rfl, hb1⟩; have hz1 := sz_a1 hb1; have HB1 := hb1.mono (B' := w.heap.size + 1) (by simp))
  refine (Bad_any _ _ _).mono ?_
  rintro e w3 ⟨rfl, hb3⟩
  have hz3 := sz_a1 hb3
  obtain ⟨hd0, hd1, he0, he1, hlt2⟩ := box2 (hb3.mono (by simp))
  have HB3 := (HB1.alloc (by omega) _).trans (hb3.mono (by simp; omega))
  obtain ⟨hc0, hc1, hf0, hf1, hlt3⟩ := box2 HB3
  go_wp2_with fail
  go_region
  go_wp2_with fail
  refine bodyPost_ret (v := .tuple #[.string ⟨#[]⟩, .agg #[.int .i64 2, .int .i64 n]]) (by simp [results, Tryd.results78, go_sem, hc0, hc1]) rfl ⟨rfl, ?_⟩
  exact (((((Below.refl _ w).alloc (Nat.le_refl _) _).trans (HB3.mono (by omega))).setCell (Nat.le_refl _) _).setCell (Nat.le_refl _) _).drew
end Go.Proofs.YtblcknhkjkcmjaaDoor
