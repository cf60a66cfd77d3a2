/- Chapter 08 in plain numbers: the rows, the code of a point, the point of a code. No program in sight; no condition. -/
import Derived.Test.YtnalckiibcbgoaaHex
set_option maxRecDepth 100000
set_option maxHeartbeats 1000000
namespace Go.Proofs.Ytnalckiibcbgoaa
open Go

def cellZ (b : Int) : Int := if 64 ≤ b ∧ b ≤ 126 then b - 64 else if 161 ≤ b ∧ b ≤ 254 then b - 161 + 63 else -1
def secondZ (c : Int) : Int := if c < 63 then 64 + c else 161 + c - 63
def B0 : List Int := [
  256, 193, 461, 192, 274, 201, 282, 200, 332, 211, 465, 210]
def B1 : List Int := [
  7870]
def B2 : List Int := [
  7872, 202, 257, 225, 462, 224, 593, 275, 233, 283, 232, 299, 237, 464, 236, 333]
def B3 : List Int := [
  243, 466, 242, 363, 250, 468, 249, 470, 472, 474]
def B4 : List Int := [
  476, 252]
def B5 : List Int := [
  7871]
def B6 : List Int := [
  7873, 234, 609]
def B7 : List Int := [
  12288, 65292, 12289, 12290, 65294, 8226, 65307, 65306, 65311, 65281, 65072, 8230, 8229, 65104, 65380, 65106, 183, 65108, 65109, 65110,
  65111, 65372, 8211, 65073, 8212, 65075, 9588, 65076, 65103, 65288, 65289, 65077, 65078, 65371, 65373, 65079, 65080, 12308, 12309, 65081,
  65082, 12304, 12305, 65083, 65084, 12298, 12299, 65085, 65086, 12296, 12297, 65087, 65088, 12300, 12301, 65089, 65090, 12302, 12303, 65091,
  65092, 65113, 65114, 65115, 65116, 65117, 65118, 8216, 8217, 8220, 8221, 12317, 12318, 8245, 8242, 65283, 65286, 65290, 8251, 167,
  12291, 9675, 9679, 9651, 9650, 9678, 9734, 9733, 9671, 9670, 9633, 9632, 9661, 9660, 12963, 8453, 8254, 65507, 65343, 717,
  65097, 65098, 65101, 65102, 65099, 65100, 65119, 65120, 65121, 65291, 65293, 215, 247, 177, 8730, 65308, 65310, 65309, 8806, 8807,
  8800, 8734, 8786, 8801, 65122, 65123, 65124, 65125, 65126, 8764, 8745, 8746, 8869, 8736, 8735, 8895, 13266, 13265, 8747, 8750,
  8757, 8756, 9792, 9794, 9793, 9737, 8593, 8595, 8592, 8594, 8598, 8599, 8601, 8600, 8741, 8739, 65295]
def B8 : List Int := [
  65367, 65368, 65369, 65370, 913, 914, 915, 916, 917, 918, 919, 920, 921, 922, 923, 924, 925, 926, 927, 928,
  929, 931, 932, 933, 934, 935, 936, 937, 945, 946, 947, 948, 949, 950, 951, 952, 953, 954, 955, 956,
  957, 958, 959, 960, 961, 963, 964, 965, 966, 967, 968, 969, 12549, 12550, 12551, 12552, 12553, 12554, 12555, 12556,
  12557, 12558, 12559, 12560, 12561, 12562, 12563, 12564, 12565, 12566, 12567, 12568, 12569, 12570, 12571, 12572, 12573, 12574, 12575, 12576,
  12577, 12578, 12579, 12580, 12581, 12582, 12583, 12584, 12585, 729, 713, 714, 711, 715]
def B9 : List Int := [
  19968, 20057, 19969, 19971, 20035, 20061, 20102, 20108, 20154, 20799, 20837, 20843, 20960, 20992, 20993, 21147, 21269, 21313, 21340, 21448,
  19977, 19979, 19976, 19978, 20011, 20024, 20961, 20037, 20040, 20063, 20062, 20110, 20129, 20800, 20995, 21242, 21315, 21449, 21475, 22303,
  22763, 22805, 22823, 22899, 23376, 23377, 23379, 23544, 23567, 23586, 23608, 23665, 24029, 24037, 24049, 24050, 24051, 24062, 24178, 24318,
  24331, 24339, 25165, 19985, 19984, 19981, 20013, 20016, 20025, 20043, 23609, 20104, 20113, 20117, 20114, 20116, 20130, 20161, 20160, 20163,
  20166, 20167, 20173, 20170, 20171, 20164, 20803, 20801, 20839, 20845, 20846, 20844, 20887, 20982, 20998, 20999, 21000, 21243, 21246, 21247,
  21270, 21305, 21320, 21319, 21317, 21342, 21380, 21451, 21450, 21453, 22764, 22825, 22827, 22826, 22829, 23380, 23569, 23588, 23610, 23663,
  24052, 24187, 24319, 24340, 24341, 24515, 25096, 25142, 25163, 25166, 25903, 25991, 26007, 26020, 26041, 26085, 26352, 26376, 26408, 27424,
  27490, 27513, 27595, 27604, 27611, 27663, 27700, 28779, 29226, 29238, 29243, 29255, 29273, 29275, 29356, 29579, 19993]
def B10 : List Int := [
  19990, 19989, 19988, 19992, 20027, 20045, 20047, 20046, 20197, 20184, 20180, 20181, 20182, 20183, 20195, 20196, 20185, 20190, 20805, 20804,
  20873, 20874, 20908, 20985, 20986, 20984, 21002, 21152, 21151, 21253, 21254, 21271, 21277, 20191, 21322, 21321, 21345, 21344, 21359, 21358,
  21435, 21487, 21476, 21491, 21484, 21486, 21481, 21480, 21500, 21496, 21493, 21483, 21478, 21482, 21490, 21489, 21488, 21477, 21485, 21499,
  22235, 22234, 22806, 22830, 22833, 22900, 22902, 23381, 23427, 23612, 24040, 24039, 24038, 24066, 24067, 24179, 24188, 24321, 24344, 24343,
  24517, 25098, 25171, 25172, 25170, 25169, 26021, 26086, 26414, 26412, 26410, 26411, 26413, 27491, 27597, 27665, 27664, 27704, 27713, 27712,
  27710, 29359, 29572, 29577, 29916, 29926, 29976, 29983, 29992, 29993, 30000, 30001, 30002, 30003, 30091, 30333, 30382, 30399, 30446, 30683,
  30690, 30707, 31034, 31166, 31348, 31435, 19998, 19999, 20050, 20051, 20073, 20121, 20132, 20134, 20133, 20223, 20233, 20249, 20234, 20245,
  20237, 20240, 20241, 20239, 20210, 20214, 20219, 20208, 20211, 20221, 20225, 20235, 20809, 20807, 20806, 20808, 20840]
def SP : List (Int × Int × List Int) := [(136, 86, B0), (136, 99, B1), (136, 101, B2), (136, 117, B3), (136, 161, B4), (136, 164, B5), (136, 166, B6), (161, 64, B7), (163, 64, B8), (164, 64, B9), (165, 64, B10)]
def R136 : List Int := List.replicate 22 63 ++ B0 ++ List.replicate 1 63 ++ B1 ++ List.replicate 1 63 ++ B2 ++ B3 ++ B4 ++ List.replicate 1 63 ++ B5 ++ List.replicate 1 63 ++ B6
def R161 : List Int := B7
def R163 : List Int := B8
def R164 : List Int := B9
def R165 : List Int := B10
def valD (c : UInt8) : Nat := if c.toNat < 58 then c.toNat - 48 else c.toNat - 55
def digB (c : UInt8) : Bool := Nat.ble 48 c.toNat && Nat.ble c.toNat 57 || Nat.ble 65 c.toNat && Nat.ble c.toNat 70
def hexOk : List UInt8 → List Int → Bool
  | a :: b :: c :: d :: e :: r, p :: ps => digB a && digB b && digB c && digB d && Nat.beq e.toNat 32 && decide (p = (valD a * 4096 + valD b * 256 + valD c * 16 + valD d : Nat)) && hexOk r ps
  | [], [] => true
  | _, _ => false
theorem digB_val {c : UInt8} (h : digB c = true) : valD c < 16 ∧ hexD (valD c : Int) = c := by
  have h' : (48 ≤ c.toNat ∧ c.toNat ≤ 57) ∨ (65 ≤ c.toNat ∧ c.toNat ≤ 70) := by simpa [digB, Nat.ble_eq] using h
  have hb := c.toNat_lt
  rcases h' with h' | h'
  · have e : valD c = c.toNat - 48 := by unfold valD; rw [if_pos (by omega)]
    refine ⟨by omega, ?_⟩
    unfold hexD
    rw [if_pos (by omega), e]
    have : (48 + ((c.toNat - 48 : Nat) : Int)).toNat = c.toNat := by omega
    rw [this]; simp
  · have e : valD c = c.toNat - 55 := by unfold valD; rw [if_neg (by omega)]
    refine ⟨by omega, ?_⟩
    unfold hexD
    rw [if_neg (by omega), e]
    have : (55 + ((c.toNat - 55 : Nat) : Int)).toNat = c.toNat := by omega
    rw [this]; simp
theorem hexOk_eq : ∀ (l : List UInt8) (ps : List Int), hexOk l ps = true → l = hexL ps
  | a :: b :: c :: d :: e :: r, p :: ps, h => by
    simp only [hexOk, Bool.and_eq_true, decide_eq_true_eq] at h
    obtain ⟨⟨⟨⟨⟨⟨h1, h2⟩, h3⟩, h4⟩, h5⟩, h6⟩, h7⟩ := h
    have ih := hexOk_eq r ps h7
    obtain ⟨a1, a2⟩ := digB_val h1
    obtain ⟨b1, b2⟩ := digB_val h2
    obtain ⟨c1, c2⟩ := digB_val h3
    obtain ⟨d1, d2⟩ := digB_val h4
    have e5 : e = 32 := by
      have := Nat.eq_of_beq_eq_true h5
      exact UInt8.toNat_inj.1 this
    have f1 : p / 4096 = (valD a : Int) := by omega
    have f2 : p / 256 % 16 = (valD b : Int) := by omega
    have f3 : p / 16 % 16 = (valD c : Int) := by omega
    have f4 : p % 16 = (valD d : Int) := by omega
    rw [hexL_cons, cellL, f1, f2, f3, f4, a2, b2, c2, d2, ← ih, e5]
    rfl
  | [], [], _ => rfl
  | [], _ :: _, h => by simp [hexOk] at h
  | _ :: _, [], h => by simp [hexOk] at h
  | [_], _ :: _, h => by simp [hexOk] at h
  | [_, _], _ :: _, h => by simp [hexOk] at h
  | [_, _, _], _ :: _, h => by simp [hexOk] at h
  | [_, _, _, _], _ :: _, h => by simp [hexOk] at h
def codesFrom (lead : Int) : Int → List Int → List (Int × Int)
  | _, [] => []
  | c, p :: ps => (lead * 256 + secondZ c, p) :: codesFrom lead (c + 1) ps
def flatL : List (Int × Int × List Int) → List (Int × Int)
  | [] => []
  | t :: l => codesFrom t.1 (cellZ t.2.1) t.2.2 ++ flatL l
def RL : List (Int × Int × List Int) := [(136, 64, R136), (161, 64, R161), (163, 64, R163), (164, 64, R164), (165, 64, R165)]
def lookP : List (Int × Int) → Int → Int
  | [], _ => -1
  | t :: l, p => if t.2 = p then t.1 else lookP l p
def oneL : List (Int × Int × List Int) → Int → Int → Int
  | [], _, _ => 0
  | t :: l, lead, c => if t.1 = lead ∧ 0 ≤ c - cellZ t.2.1 ∧ c - cellZ t.2.1 < t.2.2.length then t.2.2.getD (c - cellZ t.2.1).toNat 0 else oneL l lead c
def findL : List (Int × Int × List Int) → Int → Int
  | [], _ => -1
  | t :: l, p => if fnd t.2.2 p < 0 then findL l p else t.1 * 256 + secondZ (cellZ t.2.1 + fnd t.2.2 p)
def rowL (lead : Int) : List Int := if lead = 136 then R136 else if lead = 161 then R161 else if lead = 163 then R163 else if lead = 164 then R164 else if lead = 165 then R165 else []
def dq (p : Int) : Int := if p = 63 then 0 else p
def rOne (lead c : Int) : Int := if c < 0 then 0 else dq ((rowL lead).getD c.toNat 0)

theorem lookP_codes (lead c : Int) (ps : List Int) (r : List (Int × Int)) (p : Int) :
    lookP (codesFrom lead c ps ++ r) p = if fnd ps p < 0 then lookP r p else lead * 256 + secondZ (c + fnd ps p) := by
  induction ps generalizing c with
  | nil => simp [codesFrom, fnd]
  | cons q ps ih =>
    have hg := fnd_ge ps p
    have ih' := ih (c + 1)
    by_cases h : q = p
    · have e : fnd (q :: ps) p = 0 := by simp [fnd, h]
      rw [e]
      simp [codesFrom, lookP, h]
    · have e0 : lookP (codesFrom lead c (q :: ps) ++ r) p = lookP (codesFrom lead (c + 1) ps ++ r) p := by simp [codesFrom, lookP, h]
      rw [e0, ih']
      by_cases h2 : fnd ps p = -1
      · have e : fnd (q :: ps) p = -1 := by simp [fnd, h, h2]
        rw [e, h2]
        simp
      · have e : fnd (q :: ps) p = fnd ps p + 1 := by simp [fnd, h, h2]
        rw [e]
        have h3 : ¬ fnd ps p < 0 := by omega
        have h4 : ¬ (fnd ps p + 1 < 0) := by omega
        rw [if_neg h3, if_neg h4]
        have e : c + 1 + fnd ps p = c + (fnd ps p + 1) := by omega
        rw [e]
theorem find_look (l : List (Int × Int × List Int)) (p : Int) : findL l p = lookP (flatL l) p := by
  induction l with
  | nil => rfl
  | cons t l ih => simp only [findL, flatL, lookP_codes, ih]
theorem lookP_filter (l : List (Int × Int)) (p : Int) (h : p ≠ 63) : lookP (l.filter fun t => decide (t.2 ≠ 63)) p = lookP l p := by
  induction l with
  | nil => rfl
  | cons t l ih =>
    by_cases ht : t.2 = 63
    · rw [List.filter_cons_of_neg (by simp [ht]), ih]
      have h' : ¬ t.2 = p := by omega
      simp only [lookP]
      rw [if_neg h']
    · rw [List.filter_cons_of_pos (by simp [ht])]
      simp only [lookP]
      rw [ih]
theorem flat_eq : flatL SP = (flatL RL).filter fun t => decide (t.2 ≠ 63) := by decide +kernel
theorem findL_ref {p : Int} (h : p ≠ 63) : findL SP p = findL RL p := by
  rw [find_look, find_look, flat_eq, lookP_filter _ _ h]
theorem findL_63 : findL SP 63 = -1 := by rw [find_look]; decide +kernel

def oneOk (lead : Int) : Bool := (List.range 157).all fun c => decide (oneL SP lead c = rOne lead c) && (decide (oneL SP lead c = 0) || (decide (lookP (flatL SP) (oneL SP lead c) = lead * 256 + secondZ c)))
theorem one_all : oneOk 136 = true ∧ oneOk 161 = true ∧ oneOk 163 = true ∧ oneOk 164 = true ∧ oneOk 165 = true := by decide +kernel
theorem oneOk_at {lead : Int} (h : oneOk lead = true) {c : Int} (h0 : 0 ≤ c) (h1 : c < 157) :
    oneL SP lead c = rOne lead c ∧ (oneL SP lead c = 0 ∨ lookP (flatL SP) (oneL SP lead c) = lead * 256 + secondZ c) := by
  unfold oneOk at h
  have := List.all_eq_true.1 h c.toNat (List.mem_range.2 (by omega))
  have e : ((c.toNat : Nat) : Int) = c := by omega
  rw [e] at this
  simpa using this
theorem oneL_none {l : List (Int × Int × List Int)} {lead : Int} (h : ∀ t ∈ l, t.1 ≠ lead) (c : Int) : oneL l lead c = 0 := by
  induction l with
  | nil => rfl
  | cons t l ih =>
    have h1 := h t (by simp)
    simp only [oneL]
    rw [if_neg (by intro hh; exact h1 hh.1)]
    exact ih fun x hx => h x (by simp [hx])
theorem cellZ_lt (b : Int) : -1 ≤ cellZ b ∧ cellZ b < 157 := by unfold cellZ; repeat' split; all_goals omega
theorem second_cell {b : Int} (h : 0 ≤ cellZ b) : secondZ (cellZ b) = b := by
  unfold cellZ at *; unfold secondZ; repeat' split at *; all_goals omega
theorem lead_five {lead : Int} (h : ∃ t ∈ SP, t.1 = lead) : lead = 136 ∨ lead = 161 ∨ lead = 163 ∨ lead = 164 ∨ lead = 165 := by
  obtain ⟨t, ht, rfl⟩ := h
  simp [SP] at ht
  rcases ht with rfl | rfl | rfl | rfl | rfl | rfl | rfl | rfl | rfl | rfl | rfl <;> simp
theorem one_any (lead b : Int) (h : 0 ≤ cellZ b) :
    oneL SP lead (cellZ b) = rOne lead (cellZ b) ∧ (oneL SP lead (cellZ b) = 0 ∨ findL SP (oneL SP lead (cellZ b)) = lead * 256 + b) := by
  rw [find_look]
  have hc := cellZ_lt b
  by_cases hl : lead = 136 ∨ lead = 161 ∨ lead = 163 ∨ lead = 164 ∨ lead = 165
  · obtain ⟨a1, a2, a3, a4, a5⟩ := one_all
    have hk : oneOk lead = true := by
      rcases hl with rfl | rfl | rfl | rfl | rfl
      · exact a1
      · exact a2
      · exact a3
      · exact a4
      · exact a5
    have := oneOk_at hk h hc.2
    rw [second_cell h] at this
    exact this
  · have h0 : oneL SP lead (cellZ b) = 0 := oneL_none (fun t ht e => hl (lead_five ⟨t, ht, e⟩)) _
    refine ⟨?_, Or.inl h0⟩
    rw [h0]
    simp only [not_or] at hl
    obtain ⟨b1, b2, b3, b4, b5⟩ := hl
    unfold rOne rowL
    simp [b1, b2, b3, b4, b5, dq]
theorem small_all : SP.all (fun t => t.2.2.all fun p => decide (128 < p ∧ p ≤ 65535 ∧ (p < 55296 ∨ 57343 < p))) = true := by decide +kernel
theorem small_at {t : Int × Int × List Int} (ht : t ∈ SP) : ∀ p ∈ t.2.2, 128 < p ∧ p ≤ 65535 ∧ (p < 55296 ∨ 57343 < p) := by
  intro p hp
  have := List.all_eq_true.1 (List.all_eq_true.1 small_all t ht) p hp
  simpa using this
theorem getD_mem' {l : List Int} {k : Nat} (h : k < l.length) : l.getD k 0 ∈ l := by
  rw [List.getD_eq_getElem?_getD, List.getElem?_eq_getElem h]; simp
theorem oneL_small {l : List (Int × Int × List Int)} (hl : ∀ t ∈ l, t ∈ SP) (lead c : Int) :
    oneL l lead c = 0 ∨ (128 < oneL l lead c ∧ oneL l lead c ≤ 65535 ∧ (oneL l lead c < 55296 ∨ 57343 < oneL l lead c)) := by
  induction l with
  | nil => exact Or.inl rfl
  | cons t l ih =>
    simp only [oneL]
    split
    · rename_i hc
      have hm : t.2.2.getD (c - cellZ t.2.1).toNat 0 ∈ t.2.2 := getD_mem' (by omega)
      exact Or.inr (small_at (hl t (by simp)) _ hm)
    · exact ih fun x hx => hl x (by simp [hx])
end Go.Proofs.Ytnalckiibcbgoaa
