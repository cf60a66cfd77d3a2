/- Contract of wansung.Bytes, for every number; condition: the cell of the library's MaxLen holds some int. -/
import Derived.Test.YtllmjlmeheohlaaDoorSU
set_option maxRecDepth 100000
set_option maxHeartbeats 1000000
namespace Go.Proofs.YtllmjlmeheohlaaDoor
open Go Go.RowKit

def inC (k : Int) : Int := (161 + (k + 1410) / 94) * 256 + (161 + (k + 1410) % 94)
def exC (k : Int) : Int := if k < 5696 then (129 + k / 178) * 256 + backZ (k % 178) else (161 + (k - 5696) / 84) * 256 + backZ ((k - 5696) % 84)
/-- The code of a sign; -1: it has none. -/
def codeP (p : Int) : Int := if 44032 ≤ p ∧ p ≤ 55203 then (if isIn (p - 44032).toNat then inC (cnt true (p - 44032).toNat) else exC (cnt false (p - 44032).toNat)) else codeW p
def bytesP (c : Int) : ByteArray := if c < 0 then ⟨#[]⟩ else ⟨#[(c / 256).toNat.toUInt8, (c % 256).toNat.toUInt8]⟩
def BPost (p : Int) (w0 : World) (e : Ending) (w' : World) : Prop := e = .returned (.tuple #[.string (bytesP (codeP p)), .bool (decide (0 ≤ codeP p))]) ∧ Below w0.heap.size w0 w'
theorem backZ_bd {n : Int} (h : 0 ≤ n ∧ n < 178) : 65 ≤ backZ n ∧ backZ n ≤ 254 := ⟨(sec_back h).2.1, (sec_back h).2.2.1⟩
theorem BPost_ok {p c : Int} {w w' : World} (hc : codeP p = c) (h0 : 0 ≤ c) (hb : Below w.heap.size w w') : BPost p w (.returned (.tuple #[.string ⟨#[(c / 256).toNat.toUInt8, (c % 256).toNat.toUInt8]⟩, .bool true])) w' := by
  refine ⟨?_, hb⟩
  rw [hc, decide_eq_true h0]
  unfold bytesP
  rw [if_neg (by omega)]
theorem code_in {n : Nat} (hn : n < 11172) (h : isIn n = true) : codeP (44032 + n) = inC (cnt true n) := by
  unfold codeP
  rw [if_pos (by omega), show ((44032 : Int) + n - 44032).toNat = n by omega, h]
  rfl
theorem code_ex {n : Nat} (hn : n < 11172) (h : isIn n = false) : codeP (44032 + n) = exC (cnt false n) := by
  unfold codeP
  rw [if_pos (by omega), show ((44032 : Int) + n - 44032).toNat = n by omega, h]
  rfl
theorem codeW_bd (p : Int) : codeW p ≤ 44287 := by
  have h1 := fnd_lt LA1 p
  have h2 := fnd_lt LA2 p
  have h6 := fnd_lt LA6 p
  obtain ⟨a, b, c⟩ := len_chk
  have hs : ∀ k, k ≤ 19 → spanC (SPN.drop (19 - k)) p ≤ 44287 := by
    intro k
    induction k with
    | zero => intro _; show spanC [] p ≤ _; simp [spanC]
    | succ k ih =>
      intro hk
      have ih := ih (by omega)
      rw [code_step (by omega : 19 - (k + 1) < 19) p, show 19 - (k + 1) + 1 = 19 - k by omega]
      split
      · have := List.all_eq_true.1 spn_chk (spC (19 - (k + 1)), spT (19 - (k + 1)), spN (19 - (k + 1))) (by
          have hl : 19 - (k + 1) < SPN.length := by simp [SPN]; omega
          have : SPN[19 - (k + 1)] = (spC (19 - (k + 1)), spT (19 - (k + 1)), spN (19 - (k + 1))) := by
            simp only [spC, spT, spN, List.getD_eq_getElem?_getD, List.getElem?_eq_getElem hl, Option.getD_some]
          rw [← this]
          exact List.getElem_mem hl)
        simp only [Bool.and_eq_true, decide_eq_true_eq] at this
        omega
      · exact ih
  have := hs 19 (by omega)
  rw [show SPN.drop (19 - 19) = SPN from rfl] at this
  unfold codeW
  repeat' split
  all_goals omega
theorem Bytes_in (n : Nat) (hn : n < 11172) (hi : isIn n = true) (w : World) :
    Calls Tryd.prog 17 #[.int .i32 (44032 + (n : Int))] w (BPost (44032 + n) w) := by
  generalize hP : BPost (44032 + n) w = P at *
  have hr := fun w => Rank_in n hn w
  rw [hi] at hr
  have hk := cnt_lt hn hi
  rw [cnt_in] at hk
  have hcode := code_in hn hi
  unfold inC at hcode
  have Hc := Lib.hid hcode
  clear hcode
  generalize cnt true n = k at *
  have hor : bits .or .i64 ((161 + ((k : Int) + 1410) / 94) * 256) (161 + ((k : Int) + 1410) % 94) = (161 + ((k : Int) + 1410) / 94) * 256 + (161 + ((k : Int) + 1410) % 94) := i64_or8 (by omega) (by omega) (by omega) (by omega)
  have hbd : 0 ≤ (161 + ((k : Int) + 1410) / 94) * 256 + (161 + ((k : Int) + 1410) % 94) ∧ (161 + ((k : Int) + 1410) / 94) * 256 + (161 + ((k : Int) + 1410) % 94) ≤ 65535 := by omega
  have hbig := fun w => Big2 ((161 + ((k : Int) + 1410) / 94) * 256 + (161 + ((k : Int) + 1410) % 94)) hbd.1 hbd.2 w
  obtain ⟨c, hc⟩ : ∃ c, c = (161 + ((k : Int) + 1410) / 94) * 256 + (161 + ((k : Int) + 1410) % 94) := ⟨_, rfl⟩
  rw [← hc] at hor hbd hbig Hc
  have hd := hbd.1
  have hd2 := hbd.2
  clear hc hbd
  go_enter Tryd.func17, Tryd.ntmps17
  go_wp2_with (first | (go_at_call 8; refine (hr _).mono ?_; rintro e w1 ⟨rfl, hb1⟩) | (go_at_call 31; refine (hbig _).mono ?_; rintro e w2 ⟨rfl, hb2⟩))
  show P (.returned (.tuple #[.string ⟨#[(c / 256).toNat.toUInt8, (c % 256).toNat.toUInt8]⟩, .bool true])) _
  rw [← hP]
  exact BPost_ok Hc.out hd (hb1.trans (hb2.mono hb1.size))
theorem Bytes_ex (n : Nat) (hn : n < 11172) (hi : isIn n = false) (w : World) :
    Calls Tryd.prog 17 #[.int .i32 (44032 + (n : Int))] w (BPost (44032 + n) w) := by
  generalize hP : BPost (44032 + n) w = P at *
  have hr := fun w => Rank_in n hn w
  rw [hi] at hr
  have hk := cnt_lt hn hi
  rw [cnt_out] at hk
  have hcode := code_ex hn hi
  unfold exC at hcode
  generalize cnt false n = k at *
  by_cases h5 : (k : Int) < 5696
  · rw [if_pos h5] at hcode
    have Hc := Lib.hid hcode
    clear hcode
    have hbk := fun w => Back_any ((k : Int) % 178) (by omega) w
    have hbb := backZ_bd (n := (k : Int) % 178) (by omega)
    generalize backZ ((k : Int) % 178) = s at *
    have hor : bits .or .i64 ((129 + (k : Int) / 178) * 256) s = (129 + (k : Int) / 178) * 256 + s := i64_or8 (by omega) (by omega) (by omega) (by omega)
    have hbd : 0 ≤ (129 + (k : Int) / 178) * 256 + s ∧ (129 + (k : Int) / 178) * 256 + s ≤ 65535 := by omega
    have hbig := fun w => Big2 ((129 + (k : Int) / 178) * 256 + s) hbd.1 hbd.2 w
    obtain ⟨c, hc⟩ : ∃ c, c = (129 + (k : Int) / 178) * 256 + s := ⟨_, rfl⟩
    rw [← hc] at hor hbd hbig Hc
    have hd := hbd.1
    have hd2 := hbd.2
    clear hc hbd
    go_enter Tryd.func17, Tryd.ntmps17
    go_wp2_with (first | (go_at_call 8; refine (hr _).mono ?_; rintro e w1 ⟨rfl, hb1⟩) | (go_at_call 29; refine (hbk _).mono ?_; rintro e w3 ⟨rfl, hb3⟩) | (go_at_call 31; refine (hbig _).mono ?_; rintro e w2 ⟨rfl, hb2⟩))
    show P (.returned (.tuple #[.string ⟨#[(c / 256).toNat.toUInt8, (c % 256).toNat.toUInt8]⟩, .bool true])) _
    rw [← hP]
    exact BPost_ok Hc.out hd ((hb1.trans (hb3.mono hb1.size)).trans (hb2.mono (Nat.le_trans hb1.size hb3.size)))
  · rw [if_neg h5] at hcode
    have Hc := Lib.hid hcode
    clear hcode
    have hbk := fun w => Back_any (((k : Int) - 5696) % 84) (by omega) w
    have hbb := backZ_bd (n := ((k : Int) - 5696) % 84) (by omega)
    generalize backZ (((k : Int) - 5696) % 84) = s at *
    have hor : bits .or .i64 ((161 + ((k : Int) - 5696) / 84) * 256) s = (161 + ((k : Int) - 5696) / 84) * 256 + s := i64_or8 (by omega) (by omega) (by omega) (by omega)
    have hbd : 0 ≤ (161 + ((k : Int) - 5696) / 84) * 256 + s ∧ (161 + ((k : Int) - 5696) / 84) * 256 + s ≤ 65535 := by omega
    have hbig := fun w => Big2 ((161 + ((k : Int) - 5696) / 84) * 256 + s) hbd.1 hbd.2 w
    obtain ⟨c, hc⟩ : ∃ c, c = (161 + ((k : Int) - 5696) / 84) * 256 + s := ⟨_, rfl⟩
    rw [← hc] at hor hbd hbig Hc
    have hd := hbd.1
    have hd2 := hbd.2
    clear hc hbd
    go_enter Tryd.func17, Tryd.ntmps17
    go_wp2_with (first | (go_at_call 8; refine (hr _).mono ?_; rintro e w1 ⟨rfl, hb1⟩) | (go_at_call 29; refine (hbk _).mono ?_; rintro e w3 ⟨rfl, hb3⟩) | (go_at_call 31; refine (hbig _).mono ?_; rintro e w2 ⟨rfl, hb2⟩))
    show P (.returned (.tuple #[.string ⟨#[(c / 256).toNat.toUInt8, (c % 256).toNat.toUInt8]⟩, .bool true])) _
    rw [← hP]
    exact BPost_ok Hc.out hd ((hb1.trans (hb3.mono hb1.size)).trans (hb2.mono (Nat.le_trans hb1.size hb3.size)))
theorem Bytes_other (p : Int) (hp : p < 44032 ∨ 55203 < p) (hrng : -2147483648 ≤ p ∧ p ≤ 2147483647) (w : World) (hm : ML w) :
    Calls Tryd.prog 17 #[.int .i32 p] w (BPost p w) := by
  have hP0 : BPost p w = fun e w' => e = .returned (.tuple #[.string (bytesP (codeW p)), .bool (decide (0 ≤ codeW p))]) ∧ Below w.heap.size w w' := by
    unfold BPost codeP
    rw [if_neg (by omega)]
  rw [hP0]
  clear hP0
  generalize hP : (fun e w' => e = Ending.returned (.tuple #[.string (bytesP (codeW p)), .bool (decide (0 ≤ codeW p))]) ∧ Below w.heap.size w w') = P at *
  have hr := fun w => Rank_out p hp w
  have hoc := fun w => OtherCode_any p hrng w
  unfold OcPost at hoc
  have hbd := codeW_bd p
  generalize codeW p = c at *
  by_cases h0 : 0 ≤ c
  · have hbig := fun w => Big2 c h0 (by omega) w
    simp only [if_pos h0, decide_eq_true h0] at hoc
    go_enter Tryd.func17, Tryd.ntmps17
    go_wp2_with (first | (go_at_call 8; refine (hr _).mono ?_; rintro e w1 ⟨rfl, hb1⟩) | (go_at_call 30; refine (hoc _ (ML_below hm hb1 (Nat.le_refl _))).mono ?_; rintro e w3 ⟨rfl, hb3⟩) | (go_at_call 31; refine (hbig _).mono ?_; rintro e w2 ⟨rfl, hb2⟩))
    show P (.returned (.tuple #[.string ⟨#[(c / 256).toNat.toUInt8, (c % 256).toNat.toUInt8]⟩, .bool true])) _
    rw [← hP]
    refine ⟨?_, (hb1.trans (hb3.mono hb1.size)).trans (hb2.mono (Nat.le_trans hb1.size hb3.size))⟩
    unfold bytesP
    rw [if_neg (by omega), decide_eq_true h0]
  · have h2 : decide (0 ≤ c) = false := by simp; omega
    have h3 : (if 0 ≤ c then c else 0) = 0 := if_neg (by omega)
    simp only [h2, h3] at hoc
    go_enter Tryd.func17, Tryd.ntmps17
    go_wp2_with (first | (go_at_call 8; refine (hr _).mono ?_; rintro e w1 ⟨rfl, hb1⟩) | (go_at_call 30; refine (hoc _ (ML_below hm hb1 (Nat.le_refl _))).mono ?_; rintro e w3 ⟨rfl, hb3⟩))
    show P (.returned (.tuple #[.string ⟨#[]⟩, .bool false])) _
    rw [← hP]
    refine ⟨?_, hb1.trans (hb3.mono hb1.size)⟩
    unfold bytesP
    rw [if_pos (by omega), h2]
theorem Bytes_any (p : Int) (hr : -2147483648 ≤ p ∧ p ≤ 2147483647) (w : World) (hm : ML w) :
    Calls Tryd.prog 17 #[.int .i32 p] w (BPost p w) := by
  by_cases hp : 44032 ≤ p ∧ p ≤ 55203
  · obtain ⟨n, rfl⟩ : ∃ n : Nat, p = 44032 + n := ⟨(p - 44032).toNat, by omega⟩
    cases hi : isIn n
    · exact Bytes_ex n (by omega) hi w
    · exact Bytes_in n (by omega) hi w
  · exact Bytes_other p (by omega) hr w hm
end Go.Proofs.YtllmjlmeheohlaaDoor
