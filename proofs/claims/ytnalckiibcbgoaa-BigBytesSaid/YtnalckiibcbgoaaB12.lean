/- Contract of the document's Code (chapter 08), for every list of at most 1,000 numbers. -/
import Derived.Test.YtnalckiibcbgoaaB10
set_option maxRecDepth 100000
set_option maxHeartbeats 4000000
namespace Go.Proofs.Ytnalckiibcbgoaa
open Go Go.RowKit

def mt (b : Int) (l : List Int) : Prop := (rTwo (136 * 256 + b)).1 ≠ 0 ∧ (rTwo (136 * 256 + b)).1 = l.getD 0 0 ∧ (rTwo (136 * 256 + b)).2 = l.getD 1 0
theorem twoB_cases (l : List Int) (h : 1 < l.length) : twoB TW l = if l.getD 0 0 = 202 ∧ l.getD 1 0 = 772 then 98 else if l.getD 0 0 = 202 ∧ l.getD 1 0 = 780 then 100 else if l.getD 0 0 = 234 ∧ l.getD 1 0 = 772 then 163 else if l.getD 0 0 = 234 ∧ l.getD 1 0 = 780 then 165 else -1 := by
  simp only [twoB, TW, h, true_and]
theorem mt_two {b : Int} {l : List Int} (hl : 1 < l.length) (h : mt b l) : twoB TW l = b := by
  rw [twoB_cases l hl]
  unfold mt rTwo at h
  obtain ⟨h1, h2, h3⟩ := h
  generalize l.getD 0 0 = x at *
  generalize l.getD 1 0 = y at *
  by_cases e1 : 136 * 256 + b = 34914
  · rw [if_pos e1] at h2 h3
    subst h2; subst h3; simp; omega
  rw [if_neg e1] at h1 h2 h3
  by_cases e2 : 136 * 256 + b = 34916
  · rw [if_pos e2] at h2 h3
    subst h2; subst h3; simp; omega
  rw [if_neg e2] at h1 h2 h3
  by_cases e3 : 136 * 256 + b = 34979
  · rw [if_pos e3] at h2 h3
    subst h2; subst h3; simp; omega
  rw [if_neg e3] at h1 h2 h3
  by_cases e4 : 136 * 256 + b = 34981
  · rw [if_pos e4] at h2 h3
    subst h2; subst h3; simp; omega
  rw [if_neg e4] at h1
  exact absurd rfl h1
theorem two_none {l : List Int} (h : ∀ b : Nat, 64 ≤ b → b < 255 → ¬ mt b l) : twoB TW l = -1 := by
  by_cases hl : 1 < l.length
  · rw [twoB_cases l hl]
    have h1 := h 98 (by omega) (by omega)
    have h2 := h 100 (by omega) (by omega)
    have h3 := h 163 (by omega) (by omega)
    have h4 := h 165 (by omega) (by omega)
    unfold mt at h1 h2 h3 h4
    rw [show rTwo (136 * 256 + ((98 : Nat) : Int)) = (202, 772) from rfl] at h1
    rw [show rTwo (136 * 256 + ((100 : Nat) : Int)) = (202, 780) from rfl] at h2
    rw [show rTwo (136 * 256 + ((163 : Nat) : Int)) = (234, 772) from rfl] at h3
    rw [show rTwo (136 * 256 + ((165 : Nat) : Int)) = (234, 780) from rfl] at h4
    generalize l.getD 0 0 = x at *
    generalize l.getD 1 0 = y at *
    rw [if_neg (fun e => h1 ⟨by decide, e.1.symm, e.2.symm⟩), if_neg (fun e => h2 ⟨by decide, e.1.symm, e.2.symm⟩), if_neg (fun e => h3 ⟨by decide, e.1.symm, e.2.symm⟩), if_neg (fun e => h4 ⟨by decide, e.1.symm, e.2.symm⟩)]
  · simp only [twoB, TW, hl, false_and, if_false]

def findQR (l : List (Int × Int × List Int)) (p : Int) : Int := if p = 63 then -1 else findL l p
theorem findL_no {l : List (Int × Int × List Int)} {p : Int} (h : ∀ t ∈ l, p ∉ t.2.2) : findL l p = -1 := by
  induction l with
  | nil => rfl
  | cons t l ih =>
    simp only [findL]
    rw [if_pos (by rw [fnd_none.2 (h t (by simp))]; decide)]
    exact ih fun x hx => h x (by simp [hx])
theorem RL_rows {t : Int × Int × List Int} (h : t ∈ RL) : t.2.2 = rowL t.1 := by
  simp only [RL, List.mem_cons, List.not_mem_nil, or_false] at h
  rcases h with rfl | rfl | rfl | rfl | rfl <;> rfl
theorem findQR_eq (p : Int) : findQR RL p = findP p := by
  unfold findQR findP
  by_cases h63 : p = 63
  · subst h63
    rw [if_pos rfl, if_neg (by omega), findL_63]
  · rw [if_neg h63]
    by_cases hp : p < 0 ∨ 65535 < p
    · rw [if_pos hp]
      refine findL_no fun t ht hm => ?_
      rw [RL_rows ht] at hm
      obtain ⟨h1, h2⟩ := row_small t.1 p hm
      have := scalarB_iff.1 h1
      omega
    · rw [if_neg hp, findL_ref h63]
def ldN (k : Nat) : Int := (RL.getD k (0, 0, [])).1
theorem ld_facts : ∀ k, k < 5 → 136 ≤ ldN k ∧ ldN k ≤ 165 := by decide
theorem RL_drop {k : Nat} (h : k < 5) : RL.drop k = (ldN k, 64, rowL (ldN k)) :: RL.drop (k + 1) := by
  have h5 : k = 0 ∨ k = 1 ∨ k = 2 ∨ k = 3 ∨ k = 4 := by omega
  rcases h5 with rfl | rfl | rfl | rfl | rfl <;> rfl
theorem cellZ_64 : cellZ 64 = 0 := by decide
theorem findQR_step {k : Nat} (h : k < 5) (p : Int) : findQR (RL.drop k) p = if p = 63 ∨ fnd (rowL (ldN k)) p < 0 then findQR (RL.drop (k + 1)) p else ldN k * 256 + secondZ (fnd (rowL (ldN k)) p) := by
  rw [RL_drop h]
  unfold findQR
  by_cases h63 : p = 63
  · simp [h63]
  · simp only [findL, cellZ_64, Int.zero_add, h63, false_or, if_false]
def codeR (l : List Int) : Int × Int :=
  if l = [] then (-1, 0) else if 0 ≤ twoB TW l then (136 * 256 + twoB TW l, 2) else if 0 ≤ findP (l.getD 0 0) then (findP (l.getD 0 0), 1) else (-1, 0)
def CodePost (l : List Int) (w0 : World) (e : Ending) (w' : World) : Prop := e = .returned (.tuple #[.int .i64 (codeR l).1, .int .i64 (codeR l).2]) ∧ Below w0.heap.size w0 w'
theorem fnd_drop (ps : List Int) (p : Int) (k : Nat) (h : ∀ j, j < k → ps.getD j 0 ≠ p) (hk : k < ps.length) (he : ps.getD k 0 = p) : fnd ps p = k := by
  induction ps generalizing k with
  | nil => simp at hk
  | cons q ps ih =>
    cases k with
    | zero => simp at he; simp [fnd, he]
    | succ k =>
      have h0 : q ≠ p := by simpa using h 0 (by omega)
      have := ih k (fun j hj => by simpa using h (j + 1) (by omega)) (by simpa using hk) (by simpa using he)
      unfold fnd
      rw [if_neg h0, if_neg (by omega), this]
      simp
theorem fnd_end (ps : List Int) (p : Int) (h : ∀ j, j < ps.length → ps.getD j 0 ≠ p) : fnd ps p = -1 := by
  rw [fnd_none]
  intro hm
  obtain ⟨j, hj, e⟩ := List.getElem_of_mem hm
  refine h j hj ?_
  rw [List.getD_eq_getElem?_getD, List.getElem?_eq_getElem hj]
  simpa using e

theorem Leads_any (w : World) : Calls Try.prog 27 #[] w fun e w' => ∃ ad c, e = .returned (.slice (some ad) 5 c) ∧ Nums w' w'.heap.size .i64 (some ad) [136, 161, 163, 164, 165] ∧ Below w.heap.size w w' := by
  go_enter Try.func27, Try.ntmps27
  go_wp2
  go_ret
  exact ⟨_, _, rfl, by have := nums_new w 3 [136, 161, 163, 164, 165] .i64; simpa using this, (Below.refl _ w).alloc (Nat.le_refl _) _⟩

theorem Code_empty (A : Option Addr) (c : Nat) (w : World) :
    Calls Try.prog 12 #[.slice A 0 c] w (CodePost [] w) := by
  go_enter Try.func12, Try.ntmps12
  go_wp2_with fail
  go_ret2
  exact ⟨rfl, Below.refl _ _⟩
def C1Rel (l : List Int) (w0 : World) (i : Value) (wr : World) : Prop := ∃ b : Nat, 64 ≤ b ∧ b ≤ 255 ∧ i = .int .i64 b ∧ (∀ b' : Nat, 64 ≤ b' → b' < b → ¬ mt b' l) ∧ Below w0.heap.size w0 wr
def C2Rel (p : Int) (w0 : World) (i : Value) (wr : World) : Prop := ∃ k : Nat, k ≤ 5 ∧ i = .int .i64 k ∧ findP p = findQR (RL.drop k) p ∧ Below w0.heap.size w0 wr
def C3Rel (ps : List Int) (p : Int) (w0 : World) (at_ i : Value) (wr : World) : Prop := ∃ k j : Nat, Run ps k j ∧ at_ = .int .i64 j ∧ i = .int .i64 k ∧ (p = 63 ∨ ∀ j', j' < k → ps.getD j' 0 ≠ p) ∧ Below w0.heap.size w0 wr

theorem Code_some (ad : Addr) (c : Nat) (l : List Int) (w : World) (hn : Nums w w.heap.size .i32 (some ad) l) (h1 : 0 < l.length) (hl : l.length ≤ 1000) :
    Calls Try.prog 12 #[.slice (some ad) l.length c] w (CodePost l w) := by
  generalize hP : CodePost l w = P at *
  obtain ⟨ad', ha', _, ca⟩ := hn.at_ (i := 0) h1
  cases ha'
  rw [Addr.add_zero'] at ca
  by_cases h2 : 1 < l.length
  · obtain ⟨ad', ha', _, cb0⟩ := hn.at_ (i := 1) h2
    cases ha'
    have cb : w.cell? ⟨ad.block, ad.off + 1, none⟩ = some (.int .i32 (l.getD 1 0)) := by simpa [Addr.add] using cb0
    have hmts : ∀ b : Int, mt b l ↔ ((rTwo (136 * 256 + b)).1 ≠ 0 ∧ (rTwo (136 * 256 + b)).1 = l.getD 0 0 ∧ (rTwo (136 * 256 + b)).2 = l.getD 1 0) := fun b => Iff.rfl
    have Hx := Lib.hid (show l.getD 0 0 = l.getD 0 0 from rfl)
    clear hn cb0 Hx
    generalize hxl : l.getD 0 0 = x at *
    generalize l.getD 1 0 = y at *
    have Hx := Lib.hid hxl
    have Hmt := Lib.hid hmts
    clear hxl hmts
    have H2 := Lib.hid h2
    have h2' : (1 : Int) < l.length := by omega
    have hd : decide ((1 : Int) < l.length) = true := decide_eq_true h2'
    have hz0 : ((l.length : Int) == 0) = false := beq_eq_false_iff_ne.2 (by omega)
    clear h2
    go_enter Try.func12, Try.ntmps12
    go_wp2_with fail
    clear hd
    go_loopw [4] (fun i wr => C1Rel l w i wr) (fun i _ => 255 - (intOf i).toNat)
    case atStart => exact ⟨64, by omega, by omega, rfl, fun b' h1 h2 => absurd h2 (by omega), Below.refl _ _⟩
    case round =>
      obtain ⟨b, hb0, hb255, rfl, hno, hbr⟩ := hrel
      by_cases hb : b < 255
      · have ht := fun w => RTwo_any 136 b (by decide) ⟨by omega, by omega⟩ w
        have hmt := Hmt.out b
        have hret : mt b l → codeR l = (34816 + (b : Int), 2) := by
          intro h
          have e := mt_two H2.out h
          unfold codeR
          rw [if_neg (by intro e; rw [e] at h1; simp at h1), e, if_pos (by omega)]
          congr 1
        have Hret := Lib.hid hret
        clear hret
        generalize (rTwo (136 * 256 + (b : Int))).1 = p at *
        generalize (rTwo (136 * 256 + (b : Int))).2 = q at *
        by_cases hp0 : p = 0
        · subst hp0
          have hnm : ¬ mt b l := fun h => (hmt.1 h).1 rfl
          clear hmt
          go_wp2_with (first | (go_at_call 18; refine (ht _).mono ?_; rintro e w1 ⟨rfl, hb1⟩; have hB1 := hbr.trans (hb1.mono hbr.size); have ca1 := bcell_keep ca hB1; have cb1 := bcell_keep cb hB1))
          go_roundw
          case rel => exact ⟨b + 1, by omega, by omega, by go_num, fun b' h1 h2 => (by by_cases e : b' = b; rw [e]; exact hnm; exact hno b' h1 (by omega)), hB1⟩
          case measure => simp [intOf]; omega
        · have hpb : (p != 0) = true := by simpa using hp0
          by_cases hpx : p = x
          · by_cases hqy : q = y
            · have hm : mt b l := hmt.2 ⟨hp0, hpx, hqy⟩
              have Hv := Lib.hid (Hret.out hm)
              clear hmt hm Hret hno
              subst hpx hqy
              go_wp2_with (first | (go_at_call 18; refine (ht _).mono ?_; rintro e w1 ⟨rfl, hb1⟩; have hB1 := hbr.trans (hb1.mono hbr.size); have ca1 := bcell_keep ca hB1; have cb1 := bcell_keep cb hB1))
              show P (.returned (.tuple #[.int .i64 (34816 + b), .int .i64 2])) _
              rw [← hP]
              unfold CodePost
              rw [Hv.out]
              exact ⟨rfl, hB1⟩
            · have hqb : (q == y) = false := by simpa using hqy
              subst hpx
              have hnm : ¬ mt b l := fun h => hqy (hmt.1 h).2.2
              clear hmt
              go_wp2_with (first | (go_at_call 18; refine (ht _).mono ?_; rintro e w1 ⟨rfl, hb1⟩; have hB1 := hbr.trans (hb1.mono hbr.size); have ca1 := bcell_keep ca hB1; have cb1 := bcell_keep cb hB1))
              go_roundw
              case rel => exact ⟨b + 1, by omega, by omega, by go_num, fun b' h1 h2 => (by by_cases e : b' = b; rw [e]; exact hnm; exact hno b' h1 (by omega)), hB1⟩
              case measure => simp [intOf]; omega
          · have hxb : (p == x) = false := by simpa using hpx
            have hnm : ¬ mt b l := fun h => hpx (hmt.1 h).2.1
            clear hmt
            go_wp2_with (first | (go_at_call 18; refine (ht _).mono ?_; rintro e w1 ⟨rfl, hb1⟩; have hB1 := hbr.trans (hb1.mono hbr.size); have ca1 := bcell_keep ca hB1; have cb1 := bcell_keep cb hB1))
            go_roundw
            case rel => exact ⟨b + 1, by omega, by omega, by go_num, fun b' h1 h2 => (by by_cases e : b' = b; rw [e]; exact hnm; exact hno b' h1 (by omega)), hB1⟩
            case measure => simp [intOf]; omega
      · have hbe : b = 255 := by omega
        subst hbe
        have hno := Lib.hid (two_none hno)
        clear hb hb0 hb255 cb Hmt
        have cat := bcell_keep ca hbr
        clear ca
        go_wp2_with (first | (go_at_call 27; refine (Leads_any _).mono ?_; rintro e w3 ⟨adL, cL, rfl, hnL, hb3⟩))
        have hb0 := hbr.trans (hb3.mono hbr.size)
        have ca3 := bcell_keep cat hb3
        go_loopw [8] (fun i wr => C2Rel x w3 i wr) (fun i _ => 5 - (intOf i).toNat)
        case atStart => exact ⟨0, by omega, rfl, (findQR_eq x).symm, Below.refl _ _⟩
        case round =>
          obtain ⟨i, hi5, rfl, heq, hbr⟩ := hrel
          by_cases hi : i < 5
          · have hstep := Lib.hid (findQR_step hi x)
            have Heq := Lib.hid heq
            clear heq
            obtain ⟨ld0, ld1⟩ := ld_facts i hi
            obtain ⟨ad', ha', _, cl⟩ := (hnL.below hbr).at_ (i := i) (by simpa using hi)
            cases ha'
            have hld : [136, 161, 163, 164, 165].getD i 0 = ldN i := by
              have h5 : i = 0 ∨ i = 1 ∨ i = 2 ∨ i = 3 ∨ i = 4 := by omega
              rcases h5 with rfl | rfl | rfl | rfl | rfl <;> rfl
            rw [hld] at cl
            have hrow := Row_any (ldN i)
            have hg := rB_good (ldN i)
            have hsz := rB_size (ldN i)
            have hln := row_len (ldN i)
            clear hld
            generalize rB (ldN i) = s at *
            generalize rowL (ldN i) = ps at *
            generalize ldN i = L at *
            have ca2 := bcell_keep ca3 hbr
            go_wp2_with (first | (go_at_call 28; refine (hrow _).mono ?_; rintro e w4 ⟨rfl, hb4⟩))
            have hb34 := hbr.trans (hb4.mono hbr.size)
            have cl4 := bcell_keep cl hb4
            have ca4 := bcell_keep ca2 hb4
            clear cl ca2 hrow
            go_loopw [10, 11] (fun a c wr => C3Rel ps x w4 a c wr) (fun a _ _ => s.size - (intOf a).toNat)
            case atStart => exact ⟨0, 0, Run.zero _, rfl, rfl, .inr (fun j hj => absurd hj (by omega)), Below.refl _ _⟩
            case round =>
              obtain ⟨k, j, hrun, rfl, rfl, hno3, hbq⟩ := hrel
              have hle := hrun.le hg.pre
              by_cases hk : k < ps.length
              · obtain ⟨q, m, hst, hrun', hn1, hn4, hin, _, _, _⟩ := hrun.step hg.pre hk
                have hgp : ps.getD k 0 = q := by
                  have h1 := hst.snoc hk
                  rw [take_getD hk] at h1
                  simpa using h1
                by_cases hq : q = x
                · by_cases h63 : x = 63
                  · clear hgp hno3
                    subst hq
                    go_wp2_with (first | (go_at_call 21; refine (RAt_step hst (by omega) (by omega) _).mono ?_; rintro e w5 ⟨rfl, hb5⟩; have hB5 := hbq.trans (hb5.mono hbq.size); have cl5 := bcell_keep cl4 hB5; have ca5 := bcell_keep ca4 hB5))
                    go_roundw
                    case rel => exact ⟨k + 1, j + m, hrun', by go_num, by go_num, .inl h63, hB5⟩
                    case measure => simp [intOf]; omega
                  · have hfn := fnd_drop ps x k (hno3.resolve_left h63) hk (by rw [hgp, hq])
                    have hval := Lib.hid (show findP x = L * 256 + secondZ k by
                      rw [Heq.out, hstep.out, if_neg (by intro h; rcases h with h | h; exact h63 h; omega), hfn])
                    clear hgp hno3 hfn Heq hstep
                    have hre : ∀ v : Int, v = L * 256 + secondZ k → codeR l = (v, 1) := by
                      intro v hv
                      have h0 : 0 ≤ L * 256 + secondZ k := by unfold secondZ; split <;> omega
                      unfold codeR
                      rw [if_neg (by intro e; rw [e] at h1; simp at h1), hno.out, if_neg (by decide), Hx.out, hval.out, if_pos h0, hv]
                    have Hre := Lib.hid hre
                    clear hre hval
                    have h63b : (x != 63) = true := by simpa using h63
                    subst hq
                    by_cases hc : k < 63
                    · have hsk : L * 256 + 64 + k = L * 256 + secondZ k := by unfold secondZ; rw [if_pos (by omega)]; omega
                      have Hk := Lib.hid hsk
                      clear hsk
                      go_wp2_with (first | (go_at_call 21; refine (RAt_step hst (by omega) (by omega) _).mono ?_; rintro e w5 ⟨rfl, hb5⟩; have hB5 := hbq.trans (hb5.mono hbq.size); have cl5 := bcell_keep cl4 hB5; have ca5 := bcell_keep ca4 hB5))
                      show P (.returned (.tuple #[.int .i64 (L * 256 + 64 + k), .int .i64 1])) _
                      rw [← hP]
                      unfold CodePost
                      rw [Hre.out _ Hk.out]
                      exact ⟨rfl, (hb0.trans (hb34.mono hb0.size)).trans (hB5.mono (Nat.le_trans hb0.size hb34.size))⟩
                    · have hsk : L * 256 + 161 + k - 63 = L * 256 + secondZ k := by unfold secondZ; rw [if_neg (by omega)]; omega
                      have Hk := Lib.hid hsk
                      clear hsk
                      go_wp2_with (first | (go_at_call 21; refine (RAt_step hst (by omega) (by omega) _).mono ?_; rintro e w5 ⟨rfl, hb5⟩; have hB5 := hbq.trans (hb5.mono hbq.size); have cl5 := bcell_keep cl4 hB5; have ca5 := bcell_keep ca4 hB5))
                      show P (.returned (.tuple #[.int .i64 (L * 256 + 161 + k - 63), .int .i64 1])) _
                      rw [← hP]
                      unfold CodePost
                      rw [Hre.out _ Hk.out]
                      exact ⟨rfl, (hb0.trans (hb34.mono hb0.size)).trans (hB5.mono (Nat.le_trans hb0.size hb34.size))⟩
                · have hqb : (q == x) = false := by simpa using hq
                  have hno4 : x = 63 ∨ ∀ j', j' < k + 1 → ps.getD j' 0 ≠ x := by
                    rcases hno3 with h | h
                    · exact .inl h
                    · refine .inr fun j' hj' => ?_
                      by_cases e : j' = k
                      · rw [e, hgp]; exact hq
                      · exact h j' (by omega)
                  clear hgp hno3
                  go_wp2_with (first | (go_at_call 21; refine (RAt_step hst (by omega) (by omega) _).mono ?_; rintro e w5 ⟨rfl, hb5⟩; have hB5 := hbq.trans (hb5.mono hbq.size); have cl5 := bcell_keep cl4 hB5; have ca5 := bcell_keep ca4 hB5))
                  go_roundw
                  case rel => exact ⟨k + 1, j + m, hrun', by go_num, by go_num, hno4, hB5⟩
                  case measure => simp [intOf]; omega
              · have hk2 : k = ps.length := by omega
                subst hk2
                obtain ⟨hi2, hdr, hir⟩ := hrun.end_ hg.pre
                have hge : ¬ j < s.size := by simp at hir; omega
                have hval : findP x = findQR (RL.drop (i + 1)) x := by
                  rw [Heq.out, hstep.out]
                  rcases hno3 with h | h
                  · rw [if_pos (.inl h)]
                  · rw [if_pos (.inr (by rw [fnd_end ps x h]; decide))]
                have Hval := Lib.hid hval
                clear hdr hir hi2 hval Heq hstep hno3
                go_wp2_with fail
                go_roundw
                case rel => exact ⟨i + 1, by omega, by go_num, Hval.out, hb34.trans (hbq.mono hb34.size)⟩
                case measure => simp [intOf]; omega
          · have hi2 : i = 5 := by omega
            subst hi2
            have hval := Lib.hid (show findP x = -1 by rw [heq]; unfold findQR; split <;> rfl)
            clear hi heq
            go_wp2_with fail
            show P (.returned (.tuple #[.int .i64 (-1), .int .i64 0])) _
            rw [← hP]
            have e : codeR l = (-1, 0) := by
              unfold codeR
              rw [if_neg (by intro e; rw [e] at h1; simp at h1), hno.out, if_neg (by decide), Hx.out, hval.out, if_neg (by decide)]
            unfold CodePost
            rw [e]
            exact ⟨rfl, hb0.trans (hbr.mono hb0.size)⟩
  · have hno := Lib.hid (show twoB TW l = -1 by simp only [twoB, TW, h2, false_and, if_false])
    clear hn
    generalize hxl : l.getD 0 0 = x at *
    have Hx := Lib.hid hxl
    clear hxl
    have h2' : ¬ (1 : Int) < l.length := by omega
    have hd : decide ((1 : Int) < l.length) = false := decide_eq_false h2'
    have hz0 : ((l.length : Int) == 0) = false := beq_eq_false_iff_ne.2 (by omega)
    have hbr := Below.refl w.heap.size w
    go_enter Try.func12, Try.ntmps12
    have cat := bcell_keep ca hbr
    clear ca
    go_wp2_with (first | (go_at_call 27; refine (Leads_any _).mono ?_; rintro e w3 ⟨adL, cL, rfl, hnL, hb3⟩))
    have hb0 := hbr.trans (hb3.mono hbr.size)
    have ca3 := bcell_keep cat hb3
    go_loopw [8] (fun i wr => C2Rel x w3 i wr) (fun i _ => 5 - (intOf i).toNat)
    case atStart => exact ⟨0, by omega, rfl, (findQR_eq x).symm, Below.refl _ _⟩
    case round =>
      obtain ⟨i, hi5, rfl, heq, hbr⟩ := hrel
      by_cases hi : i < 5
      · have hstep := Lib.hid (findQR_step hi x)
        have Heq := Lib.hid heq
        clear heq
        obtain ⟨ld0, ld1⟩ := ld_facts i hi
        obtain ⟨ad', ha', _, cl⟩ := (hnL.below hbr).at_ (i := i) (by simpa using hi)
        cases ha'
        have hld : [136, 161, 163, 164, 165].getD i 0 = ldN i := by
          have h5 : i = 0 ∨ i = 1 ∨ i = 2 ∨ i = 3 ∨ i = 4 := by omega
          rcases h5 with rfl | rfl | rfl | rfl | rfl <;> rfl
        rw [hld] at cl
        have hrow := Row_any (ldN i)
        have hg := rB_good (ldN i)
        have hsz := rB_size (ldN i)
        have hln := row_len (ldN i)
        clear hld
        generalize rB (ldN i) = s at *
        generalize rowL (ldN i) = ps at *
        generalize ldN i = L at *
        have ca2 := bcell_keep ca3 hbr
        go_wp2_with (first | (go_at_call 28; refine (hrow _).mono ?_; rintro e w4 ⟨rfl, hb4⟩))
        have hb34 := hbr.trans (hb4.mono hbr.size)
        have cl4 := bcell_keep cl hb4
        have ca4 := bcell_keep ca2 hb4
        clear cl ca2 hrow
        go_loopw [10, 11] (fun a c wr => C3Rel ps x w4 a c wr) (fun a _ _ => s.size - (intOf a).toNat)
        case atStart => exact ⟨0, 0, Run.zero _, rfl, rfl, .inr (fun j hj => absurd hj (by omega)), Below.refl _ _⟩
        case round =>
          obtain ⟨k, j, hrun, rfl, rfl, hno3, hbq⟩ := hrel
          have hle := hrun.le hg.pre
          by_cases hk : k < ps.length
          · obtain ⟨q, m, hst, hrun', hn1, hn4, hin, _, _, _⟩ := hrun.step hg.pre hk
            have hgp : ps.getD k 0 = q := by
              have h1 := hst.snoc hk
              rw [take_getD hk] at h1
              simpa using h1
            by_cases hq : q = x
            · by_cases h63 : x = 63
              · clear hgp hno3
                subst hq
                go_wp2_with (first | (go_at_call 21; refine (RAt_step hst (by omega) (by omega) _).mono ?_; rintro e w5 ⟨rfl, hb5⟩; have hB5 := hbq.trans (hb5.mono hbq.size); have cl5 := bcell_keep cl4 hB5; have ca5 := bcell_keep ca4 hB5))
                go_roundw
                case rel => exact ⟨k + 1, j + m, hrun', by go_num, by go_num, .inl h63, hB5⟩
                case measure => simp [intOf]; omega
              · have hfn := fnd_drop ps x k (hno3.resolve_left h63) hk (by rw [hgp, hq])
                have hval := Lib.hid (show findP x = L * 256 + secondZ k by
                  rw [Heq.out, hstep.out, if_neg (by intro h; rcases h with h | h; exact h63 h; omega), hfn])
                clear hgp hno3 hfn Heq hstep
                have hre : ∀ v : Int, v = L * 256 + secondZ k → codeR l = (v, 1) := by
                  intro v hv
                  have h0 : 0 ≤ L * 256 + secondZ k := by unfold secondZ; split <;> omega
                  unfold codeR
                  rw [if_neg (by intro e; rw [e] at h1; simp at h1), hno.out, if_neg (by decide), Hx.out, hval.out, if_pos h0, hv]
                have Hre := Lib.hid hre
                clear hre hval
                have h63b : (x != 63) = true := by simpa using h63
                subst hq
                by_cases hc : k < 63
                · have hsk : L * 256 + 64 + k = L * 256 + secondZ k := by unfold secondZ; rw [if_pos (by omega)]; omega
                  have Hk := Lib.hid hsk
                  clear hsk
                  go_wp2_with (first | (go_at_call 21; refine (RAt_step hst (by omega) (by omega) _).mono ?_; rintro e w5 ⟨rfl, hb5⟩; have hB5 := hbq.trans (hb5.mono hbq.size); have cl5 := bcell_keep cl4 hB5; have ca5 := bcell_keep ca4 hB5))
                  show P (.returned (.tuple #[.int .i64 (L * 256 + 64 + k), .int .i64 1])) _
                  rw [← hP]
                  unfold CodePost
                  rw [Hre.out _ Hk.out]
                  exact ⟨rfl, (hb0.trans (hb34.mono hb0.size)).trans (hB5.mono (Nat.le_trans hb0.size hb34.size))⟩
                · have hsk : L * 256 + 161 + k - 63 = L * 256 + secondZ k := by unfold secondZ; rw [if_neg (by omega)]; omega
                  have Hk := Lib.hid hsk
                  clear hsk
                  go_wp2_with (first | (go_at_call 21; refine (RAt_step hst (by omega) (by omega) _).mono ?_; rintro e w5 ⟨rfl, hb5⟩; have hB5 := hbq.trans (hb5.mono hbq.size); have cl5 := bcell_keep cl4 hB5; have ca5 := bcell_keep ca4 hB5))
                  show P (.returned (.tuple #[.int .i64 (L * 256 + 161 + k - 63), .int .i64 1])) _
                  rw [← hP]
                  unfold CodePost
                  rw [Hre.out _ Hk.out]
                  exact ⟨rfl, (hb0.trans (hb34.mono hb0.size)).trans (hB5.mono (Nat.le_trans hb0.size hb34.size))⟩
            · have hqb : (q == x) = false := by simpa using hq
              have hno4 : x = 63 ∨ ∀ j', j' < k + 1 → ps.getD j' 0 ≠ x := by
                rcases hno3 with h | h
                · exact .inl h
                · refine .inr fun j' hj' => ?_
                  by_cases e : j' = k
                  · rw [e, hgp]; exact hq
                  · exact h j' (by omega)
              clear hgp hno3
              go_wp2_with (first | (go_at_call 21; refine (RAt_step hst (by omega) (by omega) _).mono ?_; rintro e w5 ⟨rfl, hb5⟩; have hB5 := hbq.trans (hb5.mono hbq.size); have cl5 := bcell_keep cl4 hB5; have ca5 := bcell_keep ca4 hB5))
              go_roundw
              case rel => exact ⟨k + 1, j + m, hrun', by go_num, by go_num, hno4, hB5⟩
              case measure => simp [intOf]; omega
          · have hk2 : k = ps.length := by omega
            subst hk2
            obtain ⟨hi2, hdr, hir⟩ := hrun.end_ hg.pre
            have hge : ¬ j < s.size := by simp at hir; omega
            have hval : findP x = findQR (RL.drop (i + 1)) x := by
              rw [Heq.out, hstep.out]
              rcases hno3 with h | h
              · rw [if_pos (.inl h)]
              · rw [if_pos (.inr (by rw [fnd_end ps x h]; decide))]
            have Hval := Lib.hid hval
            clear hdr hir hi2 hval Heq hstep hno3
            go_wp2_with fail
            go_roundw
            case rel => exact ⟨i + 1, by omega, by go_num, Hval.out, hb34.trans (hbq.mono hb34.size)⟩
            case measure => simp [intOf]; omega
      · have hi2 : i = 5 := by omega
        subst hi2
        have hval := Lib.hid (show findP x = -1 by rw [heq]; unfold findQR; split <;> rfl)
        clear hi heq
        go_wp2_with fail
        show P (.returned (.tuple #[.int .i64 (-1), .int .i64 0])) _
        rw [← hP]
        have e : codeR l = (-1, 0) := by
          unfold codeR
          rw [if_neg (by intro e; rw [e] at h1; simp at h1), hno.out, if_neg (by decide), Hx.out, hval.out, if_neg (by decide)]
        unfold CodePost
        rw [e]
        exact ⟨rfl, hb0.trans (hbr.mono hb0.size)⟩

theorem RCode_any (A : Option Addr) (c : Nat) (l : List Int) (w : World) (hn : Nums w w.heap.size .i32 A l) (hl : l.length ≤ 1000) :
    Calls Try.prog 12 #[.slice A l.length c] w fun e w' => e = .returned (.tuple #[.int .i64 (codeR l).1, .int .i64 (codeR l).2]) ∧ Below w.heap.size w w' := by
  cases l with
  | nil => exact Code_empty A c w
  | cons x r =>
    obtain ⟨ad, rfl, _, _⟩ := hn.at_ (i := 0) (by simp)
    exact Code_some ad c (x :: r) w hn (by simp) hl
end Go.Proofs.Ytnalckiibcbgoaa
