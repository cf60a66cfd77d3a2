/- Contracts: point.Text: signs as bytes, or none. -/
import Derived.Test.YtpnjandlpbjddabDoorP1
import Derived.Test.YtpnjandlpbjddabDoorA2
namespace Go.Proofs.YtpnjandlpbjddabDoor
open Go Go.RowKit

theorem runeLen_enc {p : Int} (h : scalarB p = true) : Lib.runeLen p = (Lib.encodeRune p).length := by
  unfold Lib.runeLen
  rcases four_cases h with ⟨h0, h1⟩ | ⟨h0, h1⟩ | h3 | ⟨h0, h1⟩
  · rw [enc_one h0 h1]; simp only [List.length_cons, List.length_nil]; repeat' split
    all_goals omega
  · rw [enc_two h0 h1]; simp only [List.length_cons, List.length_nil]; repeat' split
    all_goals omega
  · rw [enc_three h3]; simp only [List.length_cons, List.length_nil]; repeat' split
    all_goals omega
  · rw [enc_four h0 h1]; simp only [List.length_cons, List.length_nil]; repeat' split
    all_goals omega
theorem RuneLen_s {p : Int} (h : scalarB p = true) (w : World) :
    Calls Tryd.prog 91 #[.int .i32 p] w fun e w' => e = .returned (.int .i64 (Lib.encodeRune p).length) ∧ w = w' :=
  (Tryd.utf8_RuneLen p w).mono fun _ _ ⟨he, hw⟩ => ⟨by rw [he, runeLen_enc h], hw.symm⟩

def textZ (ps : List Int) : List Int := ps.flatMap Lib.encodeRuneZ
theorem textZ_snoc (a : List Int) (p : Int) : textZ (a ++ [p]) = textZ a ++ Lib.encodeRuneZ p := by simp [textZ]
theorem textZ_len (ps : List Int) : (textZ ps).length = (textL ps).length := by
  induction ps with
  | nil => rfl
  | cons p ps ih =>
    rw [textL_cons, List.length_append, ← ih]
    simp [textZ, Lib.encodeRune]
theorem strOfNums_text (ps : List Int) : strOfNums (textZ ps) = ⟨(textL ps).toArray⟩ := by
  unfold strOfNums
  congr 2
  induction ps with
  | nil => rfl
  | cons p ps ih =>
    rw [textL_cons, ← ih]
    simp [textZ, Lib.encodeRune]

/-- The number at a place of a slice of numbers. -/
theorem Nums.get {w : World} {B : Nat} {k : IntKind} {A : Option Addr} {zs : List Int} {i : Nat} (h : Nums w B k A zs) (hi : i < zs.length) :
    ∃ ad p, A = some ad ∧ ad.block < B ∧ w.cell? (ad.add i) = some (.int k p) ∧ Hid (zs.getD i 0 = p) ∧ p ∈ zs := by
  obtain ⟨ad, e, hb, hc⟩ := h.at_ hi
  exact ⟨ad, _, e, hb, hc, rfl, getD_mem hi⟩

theorem byte_info : (Tryd.prog.info? 5).map (fun i => (i.zero, i.size, i.bytes)) = some (some (.int .u8 0), 1, 1) := by kernel_rfl
theorem rune_info : (Tryd.prog.info? 21).map (fun i => (i.zero, i.size, i.bytes)) = some (some (.int .i32 0), 1, 4) := by kernel_rfl

def TextRel (ps : List Int) (w0 : World) (b i : Value) (wr : World) : Prop :=
  ∃ k : Nat, k ≤ ps.length ∧ i = .int .i64 k ∧ wr.ownsRow w0.heap.size 5 1 b (textZ (ps.take k)).length ((textZ (ps.take k)).map (Value.int .u8)) ∧ Below w0.heap.size w0 wr


def SizeRel (ps : List Int) (sz i : Value) : Prop := ∃ k : Nat, k ≤ ps.length ∧ i = .int .i64 k ∧ sz = .int .i64 (textL (ps.take k)).length

theorem Text_good (A : Option Addr) (c : Nat) (ps : List Int) (w : World) {B : Nat} (hn : Nums w B .i32 A ps) (hB : B ≤ w.heap.size) (hps : ∀ p ∈ ps, scalarB p = true) (hl : ps.length ≤ 35184372088000) :
    Calls Tryd.prog 58 #[.slice A ps.length c] w fun e w' => e = .returned (.tuple #[.string ⟨(textL ps).toArray⟩, .bool true]) ∧ Below w.heap.size w w' := by
  obtain ⟨i0, hi, hz0, hz1, hz2⟩ := info_parts byte_info
  go_enter Tryd.func58, Tryd.ntmps58
  go_wp2_with fail
  go_loop [4, 12] (fun sz i => SizeRel ps sz i) (fun _ i => ps.length - (intOf i).toNat)
  case atStart => exact ⟨0, Nat.zero_le _, rfl, rfl⟩
  case round =>
    obtain ⟨k, hk, rfl, rfl⟩ := hrel
    have h4 := (len_textL (ps.take k)).2
    rw [List.length_take] at h4
    by_cases hlt : k < ps.length
    · obtain ⟨ad, p, rfl, _, hc, hp, hm⟩ := hn.get hlt
      have hs := hps p hm
      have hlen := enc_len p
      have hnext : Hid ((textL (ps.take (k + 1))).length = (textL (ps.take k)).length + (Lib.encodeRune p).length) := by
        rw [take_getD hlt, hp.out, textL_snoc, List.length_append]; rfl
      clear hps hn
      go_wp2_with (first | (go_at_call 64; refine (Scalar_any _ _).mono ?_; rintro e w' ⟨rfl, rfl⟩) | (go_at_call 91; refine (RuneLen_s hs _).mono ?_; rintro e w' ⟨rfl, rfl⟩))
      go_round
      case rel => exact ⟨k + 1, by omega, by go_num, by rw [hnext.out]; go_num⟩
      case measure => simp [intOf]; omega
    · have hk2 : k = ps.length := by omega
      subst hk2
      rw [List.take_length] at h4 ⊢
      clear hlt
      go_wp2_with (at_make; refine wpList_make_own _ rfl _ _ 51 rfl w.heap.size 5 i0 (.int .u8 0) 1 Tryd.underlying51 hi hz0 hz1 .i64 .i64 _ (textL ps).length rfl rfl rfl (by rw [hz2]; omega) (by unfold maxLen; omega) (Nat.le_refl _) ?_; intro w1 hown hgrow)
      have hb1 : Below w.heap.size w w1 := (Below.refl _ _).grown hgrow (Nat.le_refl _) (by simp)
      clear hgrow
      go_loopw [7, 28] (fun b i wr => TextRel ps w b i wr) (fun _ i _ => ps.length - (intOf i).toNat)
      case atStart => exact ⟨0, Nat.zero_le _, rfl, hown, hb1⟩
      case round =>
        obtain ⟨k, hk, rfl, hownk, hbk⟩ := hrel
        have hnk := hn.below (hbk.mono hB)
        have hsz := hbk.size
        have h4k := (len_textL (ps.take k)).2
        rw [List.length_take] at h4k
        have hzl := textZ_len (ps.take k)
        by_cases hlt : k < ps.length
        · obtain ⟨ad, p, rfl, _, hc, hp, hm⟩ := hnk.get hlt
          have hs := scalarB_iff.1 (hps p hm)
          have hlen := enc_len p
          have hcap : (textZ (ps.take k)).length + 4 ≤ 140737488355328 := by omega
          have hnext : Hid ((textZ (ps.take (k + 1))).map (Value.int .u8) = (textZ (ps.take k)).map (Value.int .u8) ++ Lib.runeCells p) := by
            rw [take_getD hlt, hp.out, textZ_snoc, List.map_append]; rfl
          have hnext2 : Hid ((textZ (ps.take (k + 1))).length = (textZ (ps.take k)).length + (Lib.runeCells p).length) := by
            have := congrArg List.length hnext.out
            simp only [List.length_map, List.length_append] at this
            exact this
          clear hps hn hnk h4k hzl hown
          go_wp2_with (go_at_call 22; refine (Tryd.utf8_AppendRune_plain _ _ _ _ p (by omega) (by omega) _ hownk hcap hsz).mono ?_; rintro e w2 ⟨v', rfl, hown2, o, hg2⟩)
          have hb2 : Below w.heap.size w w2 := below_grownOwn (hbk.alloc hsz o) (hownk.alloc o) hg2 (by simp; omega) (Nat.le_refl _)
          rw [← hnext.out, ← hnext2.out] at hown2
          go_roundw
          case rel => exact ⟨k + 1, by omega, by go_num, hown2, hb2⟩
          case measure => simp [intOf]; omega
        · have hk2 : k = ps.length := by omega
          subst hk2
          rw [List.take_length] at hownk
          clear hlt
          have hconv := conv_own (P := Tryd.prog) 51 9 5 Tryd.underlying51 Tryd.underlying5 Tryd.underlying9 wr hownk
          rw [strOfNums_text] at hconv
          go_wp2_with fail
          go_ret2
          exact ⟨rfl, hbk⟩

def AllRel (ps : List Int) (i : Value) : Prop := ∃ k : Nat, k ≤ ps.length ∧ i = .int .i64 k ∧ ∀ p ∈ ps.take k, scalarB p = true

theorem Text_bad (A : Option Addr) (c : Nat) (ps : List Int) (w : World) {B : Nat} (hn : Nums w B .i32 A ps) (hps : ¬ ∀ p ∈ ps, scalarB p = true) (hl : ps.length ≤ 35184372088000) :
    Calls Tryd.prog 58 #[.slice A ps.length c] w fun e w' => e = .returned (.tuple #[.string ⟨#[]⟩, .bool false]) ∧ w = w' := by
  go_enter Tryd.func58, Tryd.ntmps58
  go_wp2_with fail
  go_loop [4, 12] (fun sz i => SizeRel ps sz i ∧ AllRel ps i) (fun _ i => ps.length - (intOf i).toNat)
  case atStart => exact ⟨⟨0, Nat.zero_le _, rfl, rfl⟩, 0, Nat.zero_le _, rfl, by simp⟩
  case round =>
    obtain ⟨⟨k, hk, rfl, rfl⟩, k', _, hkk, hall⟩ := hrel
    have hkk' : k' = k := by injection hkk with _ h; omega
    subst hkk'
    have h4 := (len_textL (ps.take k')).2
    rw [List.length_take] at h4
    by_cases hlt : k' < ps.length
    · obtain ⟨ad, p, rfl, _, hc, hp, hm⟩ := hn.get hlt
      by_cases hs : scalarB p = true
      · have hlen := enc_len p
        have hnext : Hid ((textL (ps.take (k' + 1))).length = (textL (ps.take k')).length + (Lib.encodeRune p).length) := by
          rw [take_getD hlt, hp.out, textL_snoc, List.length_append]; rfl
        have hall' : ∀ q ∈ ps.take (k' + 1), scalarB q = true := by
          rw [take_getD hlt, hp.out]
          intro q hq
          rcases List.mem_append.1 hq with h | h
          · exact hall q h
          · rw [List.mem_singleton.1 h]; exact hs
        have Hall := Lib.hid hall'
        clear hps hn hall hall' hkk
        go_wp2_with (first | (go_at_call 64; refine (Scalar_any _ _).mono ?_; rintro e w' ⟨rfl, rfl⟩) | (go_at_call 91; refine (RuneLen_s hs _).mono ?_; rintro e w' ⟨rfl, rfl⟩))
        go_round
        case rel => exact ⟨⟨k' + 1, by omega, by go_num, by rw [hnext.out]; go_num⟩, k' + 1, by omega, by go_num, Hall.out⟩
        case measure => simp [intOf]; omega
      · have hs2 : scalarB p = false := by simpa using hs
        clear hps hn hall hkk hs
        go_wp2_with (first | (go_at_call 64; refine (Scalar_any _ _).mono ?_; rintro e w' ⟨rfl, rfl⟩))
        go_ret2
        exact ⟨rfl, rfl⟩
    · exfalso
      have hk2 : k' = ps.length := by omega
      subst hk2
      rw [List.take_length] at hall
      exact hps hall
end Go.Proofs.YtpnjandlpbjddabDoor
