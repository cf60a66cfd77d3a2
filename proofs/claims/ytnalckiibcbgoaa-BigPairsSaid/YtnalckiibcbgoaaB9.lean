/- The document's answer for chapter 08: cells, rows, the sign of two bytes, both signs; condition: small numbers. -/
import Derived.Test.YtnalckiibcbgoaaB8
set_option maxRecDepth 100000
set_option maxHeartbeats 1000000
namespace Go.Proofs.Ytnalckiibcbgoaa
open Go Go.RowKit

theorem RCell_any (b : Int) (hb : -1000 ≤ b ∧ b ≤ 1000) (w : World) :
    Calls Try.prog 30 #[.int .i64 b] w fun e w' => e = .returned (.int .i64 (cellZ b)) ∧ Below w.heap.size w w' := by
  have h0 := hb.1
  have h1 := hb.2
  go_enter Try.func30, Try.ntmps30
  go_wp2
  all_goals go_ret
  all_goals refine ⟨ret_int ?_, Below.refl _ _⟩
  all_goals unfold cellZ
  all_goals repeat' split
  all_goals omega

def eqB : List UInt8 → List UInt8 → Bool
  | [], [] => true
  | a :: l, b :: r => Nat.beq a.toNat b.toNat && eqB l r
  | _, _ => false
theorem eqB_eq : ∀ (l r : List UInt8), eqB l r = true → l = r
  | [], [], _ => rfl
  | a :: l, b :: r, h => by
    simp only [eqB, Bool.and_eq_true] at h
    rw [eqB_eq l r h.2, UInt8.toNat_inj.1 (Nat.eq_of_beq_eq_true h.1)]
  | [], _ :: _, h => by simp [eqB] at h
  | _ :: _, [], h => by simp [eqB] at h
def rB (n : Int) : ByteArray := ⟨(textL (rowL n)).toArray⟩
theorem litR (n : Int) (d : Array UInt8) (h : eqB d.toList (textL (rowL n)) = true) : ByteArray.mk d = rB n := by
  have := eqB_eq _ _ h
  unfold rB
  rw [← this]
def eB : ByteArray := ⟨#[]⟩
theorem litE : ByteArray.mk #[] = eB := rfl
theorem rB_other {n : Int} (h1 : n ≠ 136) (h2 : n ≠ 161) (h3 : n ≠ 163) (h4 : n ≠ 164) (h5 : n ≠ 165) : rB n = eB := by
  unfold rB rowL
  rw [if_neg h1, if_neg h2, if_neg h3, if_neg h4, if_neg h5]
  rfl
theorem scal_all : [136, 161, 163, 164, 165].all (fun n : Int => (rowL n).all fun p => scalarB p && decide (p ≤ 65535)) = true := by decide +kernel
theorem row_small (n : Int) : ∀ p ∈ rowL n, scalarB p = true ∧ p ≤ 65535 := by
  intro p hp
  have h := List.all_eq_true.1 scal_all
  by_cases hn : n = 136 ∨ n = 161 ∨ n = 163 ∨ n = 164 ∨ n = 165
  · have := List.all_eq_true.1 (h n (by simp; omega)) p hp
    simpa using this
  · simp only [not_or] at hn
    obtain ⟨h1, h2, h3, h4, h5⟩ := hn
    unfold rowL at hp
    rw [if_neg h1, if_neg h2, if_neg h3, if_neg h4, if_neg h5] at hp
    simp at hp
theorem rB_good (n : Int) : Good (rB n) (rowL n) := good_text fun p hp => (row_small n p hp).1
theorem len_all : [136, 161, 163, 164, 165].all (fun n : Int => Nat.ble (rowL n).length 157) = true := by decide +kernel
theorem row_len (n : Int) : (rowL n).length ≤ 157 := by
  by_cases hn : n = 136 ∨ n = 161 ∨ n = 163 ∨ n = 164 ∨ n = 165
  · have := List.all_eq_true.1 len_all n (by simp; omega)
    exact Nat.le_of_ble_eq_true this
  · simp only [not_or] at hn
    obtain ⟨h1, h2, h3, h4, h5⟩ := hn
    unfold rowL
    rw [if_neg h1, if_neg h2, if_neg h3, if_neg h4, if_neg h5]
    simp
theorem rB_size (n : Int) : (rB n).size ≤ 1000 := by
  have h := (len_textL (rowL n)).2
  have h2 := row_len n
  rw [(rB_good n).size]; omega

def selB (n : Int) (s1 s2 s3 s4 s5 s0 : ByteArray) : ByteArray := if n = 136 then s1 else if n = 161 then s2 else if n = 163 then s3 else if n = 164 then s4 else if n = 165 then s5 else s0
theorem rB_sel (n : Int) : rB n = selB n (rB 136) (rB 161) (rB 163) (rB 164) (rB 165) eB := by
  unfold selB
  repeat' split
  all_goals (try subst_vars; try rfl)
  exact rB_other (by assumption) (by assumption) (by assumption) (by assumption) (by assumption)
theorem Row_any (n : Int) (w : World) :
    Calls Try.prog 28 #[.int .i64 n] w fun e w' => e = .returned (.string (rB n)) ∧ Below w.heap.size w w' := by
  rw [rB_sel n]
  refine calls_of_wp Try.func28 rfl ?_
  rw [litE]
  rw [litR 136]
  rotate_left
  kernel_rfl
  rw [litR 161]
  rotate_left
  kernel_rfl
  rw [litR 163]
  rotate_left
  kernel_rfl
  rw [litR 164]
  rotate_left
  kernel_rfl
  rw [litR 165]
  rotate_left
  kernel_rfl
  generalize rB 136 = s1
  generalize rB 161 = s2
  generalize rB 163 = s3
  generalize rB 164 = s4
  generalize rB 165 = s5
  generalize eB = s0
  simp only [Try.ntmps28, List.size_toArray, List.length_cons, List.length_nil, Nat.reduceAdd, Nat.reduceSub, Array.replicate_succ, Array.replicate_zero, List.push_toArray, List.append_toArray, List.nil_append, List.cons_append]
  by_cases h1 : n = 136
  · have e : selB n s1 s2 s3 s4 s5 s0 = s1 := by unfold selB; rw [if_pos h1]
    rw [e]
    go_wp2_with fail
    go_ret
    exact ⟨rfl, Below.refl _ _⟩
  by_cases h2 : n = 161
  · have e : selB n s1 s2 s3 s4 s5 s0 = s2 := by unfold selB; rw [if_neg h1, if_pos h2]
    rw [e]
    go_wp2_with fail
    go_ret
    exact ⟨rfl, Below.refl _ _⟩
  by_cases h3 : n = 163
  · have e : selB n s1 s2 s3 s4 s5 s0 = s3 := by unfold selB; rw [if_neg h1, if_neg h2, if_pos h3]
    rw [e]
    go_wp2_with fail
    go_ret
    exact ⟨rfl, Below.refl _ _⟩
  by_cases h4 : n = 164
  · have e : selB n s1 s2 s3 s4 s5 s0 = s4 := by unfold selB; rw [if_neg h1, if_neg h2, if_neg h3, if_pos h4]
    rw [e]
    go_wp2_with fail
    go_ret
    exact ⟨rfl, Below.refl _ _⟩
  by_cases h5 : n = 165
  · have e : selB n s1 s2 s3 s4 s5 s0 = s5 := by unfold selB; rw [if_neg h1, if_neg h2, if_neg h3, if_neg h4, if_pos h5]
    rw [e]
    go_wp2_with fail
    go_ret
    exact ⟨rfl, Below.refl _ _⟩
  have e : selB n s1 s2 s3 s4 s5 s0 = s0 := by unfold selB; rw [if_neg h1, if_neg h2, if_neg h3, if_neg h4, if_neg h5]
  rw [e]
  go_wp2_with fail
  go_ret
  exact ⟨rfl, Below.refl _ _⟩

def nthZ (ps : List Int) (n : Int) : Int := if 0 ≤ n ∧ n < ps.length then ps.getD n.toNat 0 else 0
def NthRel (ps : List Int) (n : Int) (w0 : World) (at_ i : Value) (wr : World) : Prop := ∃ k j : Nat, Run ps k j ∧ at_ = .int .i64 j ∧ i = .int .i64 k ∧ (n < 0 ∨ k ≤ n) ∧ Below w0.heap.size w0 wr
theorem Nth_any (s : ByteArray) (ps : List Int) (hg : Good s ps) (hs : s.size ≤ 1000000) (n : Int) (w : World) :
    Calls Try.prog 31 #[.string s, .int .i64 n] w fun e w' => e = .returned (.int .i32 (nthZ ps n)) ∧ Below w.heap.size w w' := by
  go_enter Try.func31, Try.ntmps31
  go_wp2
  go_loopw [5, 6] (fun a i wr => NthRel ps n w a i wr) (fun a _ _ => s.size - (intOf a).toNat)
  case atStart => exact ⟨0, 0, Run.zero _, rfl, rfl, by omega, Below.refl _ _⟩
  case round =>
    obtain ⟨k, j, hrun, rfl, rfl, hkn, hb⟩ := hrel
    have hle := hrun.le hg.pre
    have hsz := hb.size
    by_cases hk : k < ps.length
    · obtain ⟨p, m, hst, hrun', hn1, hn4, hin, _, _, _⟩ := hrun.step hg.pre hk
      have hgp : ps.getD k 0 = p := by
        have h1 := hst.snoc hk
        rw [take_getD hk] at h1
        simpa using h1
      by_cases he : (k : Int) = n
      · have hval := Lib.hid (show nthZ ps n = p by unfold nthZ; rw [if_pos (by omega), ← he]; simpa using hgp)
        clear hgp
        subst he
        go_wp2_with (first | (go_at_call 21; refine (RAt_step hst (by omega) (by omega) _).mono ?_; rintro e w1 ⟨rfl, hb1⟩))
        go_ret
        rw [hval.out]
        exact ⟨rfl, hb.trans (hb1.mono hsz)⟩
      · clear hgp
        go_wp2_with (first | (go_at_call 21; refine (RAt_step hst (by omega) (by omega) _).mono ?_; rintro e w1 ⟨rfl, hb1⟩))
        go_roundw
        case rel => exact ⟨k + 1, j + m, hrun', by go_num, by go_num, by omega, hb.trans (hb1.mono hsz)⟩
        case measure => simp [intOf]; omega
    · have hk2 : k = ps.length := by omega
      subst hk2
      obtain ⟨hi2, hdr, hir⟩ := hrun.end_ hg.pre
      have hge : ¬ j < s.size := by simp at hir; omega
      have hval := Lib.hid (show nthZ ps n = 0 by unfold nthZ; rw [if_neg (by omega)])
      clear hdr hir hi2
      go_wp2_with fail
      go_ret
      rw [hval.out]
      exact ⟨rfl, hb⟩

theorem nthZ_nn (ps : List Int) {c : Int} (h : 0 ≤ c) : nthZ ps c = ps.getD c.toNat 0 := by
  unfold nthZ
  split
  · rfl
  · rw [List.getD_eq_getElem?_getD, List.getElem?_eq_none (by omega)]; rfl
theorem ROne_any (lead b : Int) (hb : -1000 ≤ b ∧ b ≤ 1000) (w : World) :
    Calls Try.prog 14 #[.int .i64 lead, .int .i64 b] w fun e w' => e = .returned (.int .i32 (rOne lead (cellZ b))) ∧ Below w.heap.size w w' := by
  have hc := RCell_any b hb
  generalize cellZ b = c at *
  by_cases h0 : c < 0
  · have e : rOne lead c = 0 := if_pos h0
    rw [e]
    go_enter Try.func14, Try.ntmps14
    go_wp2_with (first | (go_at_call 30; refine (hc _).mono ?_; rintro e w1 ⟨rfl, hb1⟩))
    go_ret
    exact ⟨rfl, hb1⟩
  · have e : rOne lead c = dq (nthZ (rowL lead) c) := by unfold rOne; rw [if_neg h0, nthZ_nn _ (by omega)]
    rw [e]
    have hn := fun w => Nth_any (rB lead) (rowL lead) (rB_good lead) (by have := rB_size lead; omega) c w
    have hr := Row_any lead
    generalize rB lead = s at *
    generalize nthZ (rowL lead) c = p at *
    clear e
    by_cases h63 : p = 63
    · have e : dq p = 0 := if_pos h63
      rw [e]
      subst h63
      go_enter Try.func14, Try.ntmps14
      go_wp2_with (first | (go_at_call 30; refine (hc _).mono ?_; rintro e w1 ⟨rfl, hb1⟩) | (go_at_call 28; refine (hr _).mono ?_; rintro e w2 ⟨rfl, hb2⟩) | (go_at_call 31; refine (hn _).mono ?_; rintro e w3 ⟨rfl, hb3⟩))
      go_ret
      exact ⟨rfl, (hb1.trans (hb2.mono hb1.size)).trans (hb3.mono (Nat.le_trans hb1.size hb2.size))⟩
    · have e : dq p = p := if_neg h63
      rw [e]
      go_enter Try.func14, Try.ntmps14
      go_wp2_with (first | (go_at_call 30; refine (hc _).mono ?_; rintro e w1 ⟨rfl, hb1⟩) | (go_at_call 28; refine (hr _).mono ?_; rintro e w2 ⟨rfl, hb2⟩) | (go_at_call 31; refine (hn _).mono ?_; rintro e w3 ⟨rfl, hb3⟩))
      go_ret
      exact ⟨rfl, (hb1.trans (hb2.mono hb1.size)).trans (hb3.mono (Nat.le_trans hb1.size hb2.size))⟩

def rTwo (c : Int) : Int × Int := if c = 34914 then (202, 772) else if c = 34916 then (202, 780) else if c = 34979 then (234, 772) else if c = 34981 then (234, 780) else (0, 0)
theorem RTwo_any (lead b : Int) (hl : 0 ≤ lead ∧ lead ≤ 1000) (hb : 0 ≤ b ∧ b ≤ 1000) (w : World) :
    Calls Try.prog 18 #[.int .i64 lead, .int .i64 b] w fun e w' => e = .returned (.tuple #[.int .i32 (rTwo (lead * 256 + b)).1, .int .i32 (rTwo (lead * 256 + b)).2]) ∧ Below w.heap.size w w' := by
  obtain ⟨l0, l1⟩ := hl
  obtain ⟨b0, b1⟩ := hb
  have hs : ∀ c : Int, c = 34914 ∨ c = 34916 ∨ c = 34979 ∨ c = 34981 ∨ (c ≠ 34914 ∧ c ≠ 34916 ∧ c ≠ 34979 ∧ c ≠ 34981) := fun c => by omega
  rcases hs (lead * 256 + b) with h | h | h | h | ⟨h1, h2, h3, h4⟩
  · have e : rTwo (lead * 256 + b) = (202, 772) := by rw [h]; rfl
    rw [e]
    go_enter Try.func18, Try.ntmps18
    go_wp2_with fail
    go_ret2
    exact ⟨rfl, Below.refl _ _⟩
  · have e : rTwo (lead * 256 + b) = (202, 780) := by rw [h]; rfl
    rw [e]
    go_enter Try.func18, Try.ntmps18
    go_wp2_with fail
    go_ret2
    exact ⟨rfl, Below.refl _ _⟩
  · have e : rTwo (lead * 256 + b) = (234, 772) := by rw [h]; rfl
    rw [e]
    go_enter Try.func18, Try.ntmps18
    go_wp2_with fail
    go_ret2
    exact ⟨rfl, Below.refl _ _⟩
  · have e : rTwo (lead * 256 + b) = (234, 780) := by rw [h]; rfl
    rw [e]
    go_enter Try.func18, Try.ntmps18
    go_wp2_with fail
    go_ret2
    exact ⟨rfl, Below.refl _ _⟩
  · have e : rTwo (lead * 256 + b) = (0, 0) := by unfold rTwo; rw [if_neg h1, if_neg h2, if_neg h3, if_neg h4]
    rw [e]
    go_enter Try.func18, Try.ntmps18
    go_wp2_with fail
    go_ret2
    exact ⟨rfl, Below.refl _ _⟩

def rSignsL (lead b : Int) : List Int := if (rTwo (lead * 256 + b)).1 ≠ 0 then [(rTwo (lead * 256 + b)).1, (rTwo (lead * 256 + b)).2] else if rOne lead (cellZ b) ≠ 0 then [rOne lead (cellZ b)] else []
theorem rTwo_scal (c : Int) : scalarB (rTwo c).1 = true ∧ scalarB (rTwo c).2 = true := by
  unfold rTwo
  repeat' split
  all_goals decide
theorem rOne_scal (lead c : Int) (h : rOne lead c ≠ 0) : scalarB (rOne lead c) = true := by
  by_cases h0 : c < 0
  · exact absurd (if_pos h0) h
  · have e : rOne lead c = dq ((rowL lead).getD c.toNat 0) := if_neg h0
    rw [e] at h ⊢
    by_cases h63 : (rowL lead).getD c.toNat 0 = 63
    · exact absurd (if_pos h63) h
    · have e2 : dq ((rowL lead).getD c.toNat 0) = (rowL lead).getD c.toNat 0 := if_neg h63
      rw [e2] at h ⊢
      by_cases hc : c.toNat < (rowL lead).length
      · exact (row_small lead _ (getD_mem' hc)).1
      · rw [List.getD_eq_getElem?_getD, List.getElem?_eq_none (by omega)] at h
        exact absurd rfl h
theorem RSigns_any (lead b : Int) (hl : 0 ≤ lead ∧ lead ≤ 1000) (hb : 0 ≤ b ∧ b ≤ 1000) (w : World) :
    Calls Try.prog 8 #[.int .i64 lead, .int .i64 b] w fun e w' => e = .returned (.string ⟨(textL (rSignsL lead b)).toArray⟩) ∧ Below w.heap.size w w' := by
  have ht := fun w => RTwo_any lead b hl hb w
  have ho := fun w => ROne_any lead b ⟨by omega, by omega⟩ w
  have hts := rTwo_scal (lead * 256 + b)
  have hos := rOne_scal lead (cellZ b)
  unfold rSignsL
  generalize (rTwo (lead * 256 + b)).1 = p at *
  generalize (rTwo (lead * 256 + b)).2 = q at *
  generalize rOne lead (cellZ b) = r at *
  by_cases hp : p ≠ 0
  · obtain ⟨h1, h2⟩ := hts
    have e : textL [p, q] = Lib.encodeRune p ++ Lib.encodeRune q := by simp [textL]
    rw [if_pos hp, e, ← mk_append]
    have l1 := enc_len p
    have l2 := enc_len q
    clear hos e
    go_enter Try.func8, Try.ntmps8
    go_wp2_with (first | (go_at_call 18; refine (ht _).mono ?_; rintro e w1 ⟨rfl, hb1⟩; clear ht) | (go_at_call 19; first | (refine (RBytes_any h1 _).mono ?_; clear h1; rintro e w2 ⟨rfl, hb2⟩) | (refine (RBytes_any h2 _).mono ?_; clear h2; rintro e w3 ⟨rfl, hb3⟩)))
    go_ret
    exact ⟨rfl, (hb1.trans (hb2.mono hb1.size)).trans (hb3.mono (Nat.le_trans hb1.size hb2.size))⟩
  · have hp0 : p = 0 := by omega
    subst hp0
    rw [if_neg (by simp)]
    by_cases hr : r ≠ 0
    · have h1 := hos hr
      have e : textL [r] = Lib.encodeRune r := by simp [textL]
      rw [if_pos hr, e]
      clear hos e
      go_enter Try.func8, Try.ntmps8
      go_wp2_with (first | (go_at_call 18; refine (ht _).mono ?_; rintro e w1 ⟨rfl, hb1⟩) | (go_at_call 14; refine (ho _).mono ?_; rintro e w2 ⟨rfl, hb2⟩) | (go_at_call 19; refine (RBytes_any h1 _).mono ?_; rintro e w3 ⟨rfl, hb3⟩))
      go_ret
      exact ⟨rfl, (hb1.trans (hb2.mono hb1.size)).trans (hb3.mono (Nat.le_trans hb1.size hb2.size))⟩
    · have hr0 : r = 0 := by omega
      subst hr0
      rw [if_neg (by simp)]
      clear hos
      go_enter Try.func8, Try.ntmps8
      go_wp2_with (first | (go_at_call 18; refine (ht _).mono ?_; rintro e w1 ⟨rfl, hb1⟩) | (go_at_call 14; refine (ho _).mono ?_; rintro e w2 ⟨rfl, hb2⟩))
      go_ret
      exact ⟨rfl, hb1.trans (hb2.mono hb1.size)⟩

theorem two_empty : oneZ 136 98 = 0 ∧ oneZ 136 100 = 0 ∧ oneZ 136 163 = 0 ∧ oneZ 136 165 = 0 := by decide +kernel
theorem oneZ_ref (lead b : Int) : oneZ lead b = rOne lead (cellZ b) := by
  unfold oneZ
  by_cases h : cellZ b < 0
  · rw [if_pos h]; exact (if_pos h).symm
  · rw [if_neg h]; exact (one_any lead b (by omega)).1
theorem signs_eq (lead b : Int) (hl : 0 ≤ lead ∧ lead ≤ 255) (hb : 0 ≤ b ∧ b ≤ 255) : rSignsL lead b = signsL lead b := by
  unfold rSignsL signsL
  rw [← oneZ_ref]
  obtain ⟨t1, t2, t3, t4⟩ := two_empty
  have hs : ∀ c : Int, c = 34914 ∨ c = 34916 ∨ c = 34979 ∨ c = 34981 ∨ (c ≠ 34914 ∧ c ≠ 34916 ∧ c ≠ 34979 ∧ c ≠ 34981) := fun c => by omega
  rcases hs (lead * 256 + b) with h | h | h | h | ⟨h1, h2, h3, h4⟩
  · obtain ⟨rfl, rfl⟩ : lead = 136 ∧ b = 98 := by omega
    rw [t1]; decide
  · obtain ⟨rfl, rfl⟩ : lead = 136 ∧ b = 100 := by omega
    rw [t2]; decide
  · obtain ⟨rfl, rfl⟩ : lead = 136 ∧ b = 163 := by omega
    rw [t3]; decide
  · obtain ⟨rfl, rfl⟩ : lead = 136 ∧ b = 165 := by omega
    rw [t4]; decide
  · have e : rTwo (lead * 256 + b) = (0, 0) := by unfold rTwo; rw [if_neg h1, if_neg h2, if_neg h3, if_neg h4]
    have e2 : twoL lead b = [] := by
      by_cases hl2 : lead = 136
      · simp only [twoL, TW, twoF]
        rw [if_neg (by omega), if_neg (by omega), if_neg (by omega), if_neg (by omega)]
      · exact twoL_no hl2
    rw [e, e2]
    simp
end Go.Proofs.Ytnalckiibcbgoaa
