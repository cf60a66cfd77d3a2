/- Chapter 5 in plain lists: the four charsets as pairs; texts decoded and encoded by a table's pairs. No program in sight. -/
import Derived.Test.YtpnjandlpbjddabDoorRB
set_option maxRecDepth 100000
set_option maxHeartbeats 4000000
namespace Go.Proofs.YtpnjandlpbjddabDoor
open Go

def rusL : List Int := [9472, 9474, 9484, 9488, 9492, 9496, 9500, 9508, 9516, 9524, 9532, 9600, 9604, 9608, 9612, 9616, 9617, 9618, 9619, 8992, 9632, 8729, 8730, 8776, 8804, 8805, 160, 8993, 176, 178, 183, 247, 9552, 9553, 9554, 1105, 9555, 9556, 9557, 9558, 9559, 9560, 9561, 9562, 9563, 9564, 9565, 9566, 9567, 9568, 9569, 1025, 9570, 9571, 9572, 9573, 9574, 9575, 9576, 9577, 9578, 9579, 9580, 169, 1102, 1072, 1073, 1094, 1076, 1077, 1092, 1075, 1093, 1080, 1081, 1082, 1083, 1084, 1085, 1086, 1087, 1103, 1088, 1089, 1090, 1091, 1078, 1074, 1100, 1099, 1079, 1096, 1101, 1097, 1095, 1098, 1070, 1040, 1041, 1062, 1044, 1045, 1060, 1043, 1061, 1048, 1049, 1050, 1051, 1052, 1053, 1054, 1055, 1071, 1056, 1057, 1058, 1059, 1046, 1042, 1068, 1067, 1047, 1064, 1069, 1065, 1063, 1066]
def frmL : List Int := [9617, 9618, 9619, 9474, 9508, 9569, 9570, 9558, 9557, 9571, 9553, 9559, 9565, 9564, 9563, 9488, 9492, 9524, 9516, 9500, 9472, 9532, 9566, 9567, 9562, 9556, 9577, 9574, 9568, 9552, 9580, 9575, 9576, 9572, 9573, 9561, 9560, 9554, 9555, 9579, 9578, 9496, 9484, 9608, 9604, 9612, 9616, 9600]
def othL : List Int := [1025, 1105, 1028, 1108, 1031, 1111, 1038, 1118, 176, 8729, 183, 8730, 8470, 164, 9632, 160]
def ukrL : List (Nat × Int) := [(164, 1108), (166, 1110), (167, 1111), (173, 1169), (180, 1028), (182, 1030), (183, 1031), (189, 1168)]
/-- The sign of a byte in one of the four. -/
def sgnL (c n : Nat) : Int :=
  if c = 0 ∨ n < 128 then n
  else if c = 3 then
    if n < 176 then (1040 + n - 128 : Int) else if n < 224 then frmL.getD (n - 176) 0 else if n < 240 then (1088 + n - 224 : Int) else othL.getD (n - 240) 0
  else if c = 2 then ((ukrL.find? fun x => x.1 == n).map (·.2)).getD (rusL.getD (n - 128) 0)
  else rusL.getD (n - 128) 0
def setL (c : Nat) : List Pr := (List.range 256).map fun n => (n, sgnL c n)
/-! Tables of hexadecimal rows, as the program has them. -/
def hexD (c : UInt8) : Int := if 48 ≤ c ∧ c ≤ 57 then c.toNat - 48 else if 65 ≤ c ∧ c ≤ 70 then c.toNat - 55 else -1
def hexV (l : List UInt8) : Int := l.foldl (fun p c => p * 16 + hexD c) 0
def hexG : List UInt8 → List Int
  | a :: b :: c :: d :: _ :: r => hexV [a, b, c, d] :: hexG r
  | _ => []
def hexOkG : List UInt8 → Bool
  | a :: b :: c :: d :: _ :: r => ([a, b, c, d].all fun x => decide (0 ≤ hexD x)) && scalarB (hexV [a, b, c, d]) && hexOkG r
  | [] => true
  | _ => false
def koiB : List UInt8 := [50, 53, 48, 48, 32, 50, 53, 48, 50, 32, 50, 53, 48, 67, 32, 50, 53, 49, 48, 32, 50, 53, 49, 52, 32, 50, 53, 49, 56, 32, 50, 53, 49, 67, 32, 50, 53, 50, 52, 32, 50, 53, 50, 67, 32, 50, 53, 51, 52, 32, 50, 53, 51, 67, 32, 50, 53, 56, 48, 32, 50, 53, 56, 52, 32, 50, 53, 56, 56, 32, 50, 53, 56, 67, 32, 50, 53, 57, 48, 32, 50, 53, 57, 49, 32, 50, 53, 57, 50, 32, 50, 53, 57, 51, 32, 50, 51, 50, 48, 32, 50, 53, 65, 48, 32, 50, 50, 49, 57, 32, 50, 50, 49, 65, 32, 50, 50, 52, 56, 32, 50, 50, 54, 52, 32, 50, 50, 54, 53, 32, 48, 48, 65, 48, 32, 50, 51, 50, 49, 32, 48, 48, 66, 48, 32, 48, 48, 66, 50, 32, 48, 48, 66, 55, 32, 48, 48, 70, 55, 32, 50, 53, 53, 48, 32, 50, 53, 53, 49, 32, 50, 53, 53, 50, 32, 48, 52, 53, 49, 32, 50, 53, 53, 51, 32, 50, 53, 53, 52, 32, 50, 53, 53, 53, 32, 50, 53, 53, 54, 32, 50, 53, 53, 55, 32, 50, 53, 53, 56, 32, 50, 53, 53, 57, 32, 50, 53, 53, 65, 32, 50, 53, 53, 66, 32, 50, 53, 53, 67, 32, 50, 53, 53, 68, 32, 50, 53, 53, 69, 32, 50, 53, 53, 70, 32, 50, 53, 54, 48, 32, 50, 53, 54, 49, 32, 48, 52, 48, 49, 32, 50, 53, 54, 50, 32, 50, 53, 54, 51, 32, 50, 53, 54, 52, 32, 50, 53, 54, 53, 32, 50, 53, 54, 54, 32, 50, 53, 54, 55, 32, 50, 53, 54, 56, 32, 50, 53, 54, 57, 32, 50, 53, 54, 65, 32, 50, 53, 54, 66, 32, 50, 53, 54, 67, 32, 48, 48, 65, 57, 32, 48, 52, 52, 69, 32, 48, 52, 51, 48, 32, 48, 52, 51, 49, 32, 48, 52, 52, 54, 32, 48, 52, 51, 52, 32, 48, 52, 51, 53, 32, 48, 52, 52, 52, 32, 48, 52, 51, 51, 32, 48, 52, 52, 53, 32, 48, 52, 51, 56, 32, 48, 52, 51, 57, 32, 48, 52, 51, 65, 32, 48, 52, 51, 66, 32, 48, 52, 51, 67, 32, 48, 52, 51, 68, 32, 48, 52, 51, 69, 32, 48, 52, 51, 70, 32, 48, 52, 52, 70, 32, 48, 52, 52, 48, 32, 48, 52, 52, 49, 32, 48, 52, 52, 50, 32, 48, 52, 52, 51, 32, 48, 52, 51, 54, 32, 48, 52, 51, 50, 32, 48, 52, 52, 67, 32, 48, 52, 52, 66, 32, 48, 52, 51, 55, 32, 48, 52, 52, 56, 32, 48, 52, 52, 68, 32, 48, 52, 52, 57, 32, 48, 52, 52, 55, 32, 48, 52, 52, 65, 32, 48, 52, 50, 69, 32, 48, 52, 49, 48, 32, 48, 52, 49, 49, 32, 48, 52, 50, 54, 32, 48, 52, 49, 52, 32, 48, 52, 49, 53, 32, 48, 52, 50, 52, 32, 48, 52, 49, 51, 32, 48, 52, 50, 53, 32, 48, 52, 49, 56, 32, 48, 52, 49, 57, 32, 48, 52, 49, 65, 32, 48, 52, 49, 66, 32, 48, 52, 49, 67, 32, 48, 52, 49, 68, 32, 48, 52, 49, 69, 32, 48, 52, 49, 70, 32, 48, 52, 50, 70, 32, 48, 52, 50, 48, 32, 48, 52, 50, 49, 32, 48, 52, 50, 50, 32, 48, 52, 50, 51, 32, 48, 52, 49, 54, 32, 48, 52, 49, 50, 32, 48, 52, 50, 67, 32, 48, 52, 50, 66, 32, 48, 52, 49, 55, 32, 48, 52, 50, 56, 32, 48, 52, 50, 68, 32, 48, 52, 50, 57, 32, 48, 52, 50, 55, 32, 48, 52, 50, 65, 32]
def b0B : List UInt8 := [50, 53, 57, 49, 32, 50, 53, 57, 50, 32, 50, 53, 57, 51, 32, 50, 53, 48, 50, 32, 50, 53, 50, 52, 32, 50, 53, 54, 49, 32, 50, 53, 54, 50, 32, 50, 53, 53, 54, 32, 50, 53, 53, 53, 32, 50, 53, 54, 51, 32, 50, 53, 53, 49, 32, 50, 53, 53, 55, 32, 50, 53, 53, 68, 32, 50, 53, 53, 67, 32, 50, 53, 53, 66, 32, 50, 53, 49, 48, 32, 50, 53, 49, 52, 32, 50, 53, 51, 52, 32, 50, 53, 50, 67, 32, 50, 53, 49, 67, 32, 50, 53, 48, 48, 32, 50, 53, 51, 67, 32, 50, 53, 53, 69, 32, 50, 53, 53, 70, 32, 50, 53, 53, 65, 32, 50, 53, 53, 52, 32, 50, 53, 54, 57, 32, 50, 53, 54, 54, 32, 50, 53, 54, 48, 32, 50, 53, 53, 48, 32, 50, 53, 54, 67, 32, 50, 53, 54, 55, 32, 50, 53, 54, 56, 32, 50, 53, 54, 52, 32, 50, 53, 54, 53, 32, 50, 53, 53, 57, 32, 50, 53, 53, 56, 32, 50, 53, 53, 50, 32, 50, 53, 53, 51, 32, 50, 53, 54, 66, 32, 50, 53, 54, 65, 32, 50, 53, 49, 56, 32, 50, 53, 48, 67, 32, 50, 53, 56, 56, 32, 50, 53, 56, 52, 32, 50, 53, 56, 67, 32, 50, 53, 57, 48, 32, 50, 53, 56, 48, 32]
def f0B : List UInt8 := [48, 52, 48, 49, 32, 48, 52, 53, 49, 32, 48, 52, 48, 52, 32, 48, 52, 53, 52, 32, 48, 52, 48, 55, 32, 48, 52, 53, 55, 32, 48, 52, 48, 69, 32, 48, 52, 53, 69, 32, 48, 48, 66, 48, 32, 50, 50, 49, 57, 32, 48, 48, 66, 55, 32, 50, 50, 49, 65, 32, 50, 49, 49, 54, 32, 48, 48, 65, 52, 32, 50, 53, 65, 48, 32, 48, 48, 65, 48, 32]
theorem koi_sg : hexG koiB = rusL ∧ hexOkG koiB = true := by decide +kernel
theorem b0_sg : hexG b0B = frmL ∧ hexOkG b0B = true := by decide +kernel
theorem f0_sg : hexG f0B = othL ∧ hexOkG f0B = true := by decide +kernel
/-! Rows of five bytes. -/
theorem five_cases : ∀ l : List UInt8, 5 ≤ l.length → ∃ a b c d e r, l = a :: b :: c :: d :: e :: r
  | [], h => by simp at h
  | [_], h => by simp at h
  | [_, _], h => by simp at h
  | [_, _, _], h => by simp at h
  | [_, _, _, _], h => by simp at h
  | a :: b :: c :: d :: e :: r, _ => ⟨a, b, c, d, e, r, rfl⟩
theorem hexG_short {l : List UInt8} (h : l.length < 5) : hexG l = [] := by
  match l, h with
  | [], _ => rfl
  | [_], _ => rfl
  | [_, _], _ => rfl
  | [_, _, _], _ => rfl
  | [_, _, _, _], _ => rfl
  | _ :: _ :: _ :: _ :: _ :: _, h => simp at h; omega
theorem hexG_drop : ∀ (k : Nat) (l : List UInt8), 5 * k ≤ l.length → (hexG l).drop k = hexG (l.drop (5 * k)) ∧ k ≤ (hexG l).length
  | 0, l, _ => by simp
  | k + 1, l, h => by
    obtain ⟨a, b, c, d, e, r, rfl⟩ := five_cases l (by omega)
    obtain ⟨h1, h2⟩ := hexG_drop k r (by simp at h; omega)
    refine ⟨?_, by simp [hexG]; exact h2⟩
    rw [show 5 * (k + 1) = 5 * k + 5 by omega]
    simp only [hexG, List.drop_succ_cons]
    exact h1
theorem hexOk_drop : ∀ (k : Nat) (l : List UInt8), 5 * k ≤ l.length → hexOkG l = true → hexOkG (l.drop (5 * k)) = true
  | 0, l, _, ho => by simpa using ho
  | k + 1, l, h, ho => by
    obtain ⟨a, b, c, d, e, r, rfl⟩ := five_cases l (by omega)
    rw [show 5 * (k + 1) = 5 * k + 5 by omega]
    simp only [List.drop_succ_cons]
    unfold hexOkG at ho
    simp only [Bool.and_eq_true] at ho
    exact hexOk_drop k r (by simp at h; omega) ho.2
theorem hexOk_nil {l : List UInt8} (h : l.length < 5) (ho : hexOkG l = true) : l = [] := by
  match l, h, ho with
  | [], _, _ => rfl
  | [_], _, ho => simp [hexOkG] at ho
  | [_, _], _, ho => simp [hexOkG] at ho
  | [_, _, _], _, ho => simp [hexOkG] at ho
  | [_, _, _, _], _, ho => simp [hexOkG] at ho
  | _ :: _ :: _ :: _ :: _ :: _, h, _ => simp at h; omega
theorem hexG_take {k : Nat} {l : List UInt8} (h : 5 * k ≤ l.length) {a b c d e : UInt8} {r : List UInt8} (hd : l.drop (5 * k) = a :: b :: c :: d :: e :: r) :
    (hexG l).take (k + 1) = (hexG l).take k ++ [hexV [a, b, c, d]] ∧ l.drop (5 * (k + 1)) = r := by
  obtain ⟨h1, h2⟩ := hexG_drop k l h
  rw [hd, hexG] at h1
  constructor
  · rw [List.take_add_one, ← List.head?_drop, h1]; rfl
  · rw [show 5 * (k + 1) = 5 * k + 5 by omega, ← List.drop_drop, hd]; rfl
theorem hexD_rng {c : UInt8} (h : 0 ≤ hexD c) : c.toNat < 128 ∧ hexD c < 16 := by
  unfold hexD at *
  split at h
  · rename_i h1; obtain ⟨h1, h2⟩ := h1; simp only [UInt8.le_iff_toNat_le] at h1 h2; split <;> first | (constructor <;> (simp at *; omega)) | (rename_i hn; exact absurd ⟨by simpa [UInt8.le_iff_toNat_le] using h1, by simpa [UInt8.le_iff_toNat_le] using h2⟩ hn)
  · split at h
    · rename_i h0 h1; obtain ⟨h1, h2⟩ := h1; simp only [UInt8.le_iff_toNat_le] at h1 h2; simp at h1 h2; rw [if_neg h0]; split <;> (constructor <;> omega)
    · omega
theorem good_asc : ∀ l : List UInt8, (∀ c ∈ l, c.toNat < 128) → textL (l.map fun c => (c.toNat : Int)) = l ∧ ∀ p ∈ l.map (fun c : UInt8 => (c.toNat : Int)), scalarB p = true
  | [], _ => ⟨rfl, by simp⟩
  | c :: l, h => by
    obtain ⟨h1, h2⟩ := good_asc l (fun x hx => h x (List.mem_cons_of_mem _ hx))
    have hc := h c (List.mem_cons_self ..)
    constructor
    · rw [List.map_cons, textL_cons, h1, enc_one (by omega) (by omega)]; simp
    · intro p hp
      rw [List.map_cons, List.mem_cons] at hp
      rcases hp with rfl | hp
      · rw [scalarB_iff]; omega
      · exact h2 p hp
/-! The pieces of each, and their pairs. -/
def eB : ByteArray := ⟨#[]⟩
def tB (ps : List Int) : ByteArray := ⟨(textL ps).toArray⟩
def seqP (a b n : Int) : Pce := (a, b, n, eB, some [])
def lstP (a : Int) (ps : List Int) : Pce := (a, 0, 0, tB ps, some ps)
def latP : List Pce := [seqP 0 0 256]
def rusP : List Pce := [seqP 0 0 128, lstP 128 rusL]
def ukrP : List Pce := [seqP 164 1108 1, seqP 166 1110 2, seqP 173 1169 1, seqP 180 1028 1, seqP 182 1030 2, seqP 189 1168 1]
def altP : List Pce := [seqP 0 0 128, seqP 128 1040 48, lstP 176 frmL, seqP 224 1088 16, lstP 240 othL]
theorem seq_ok (a b n : Int) (h : 0 ≤ a ∧ a < 1000 ∧ 0 ≤ b ∧ b < 10000 ∧ 0 ≤ n ∧ n < 1000) : PceOk (seqP a b n) ∧ (seqP a b n).2.2.2.1.size ≤ 1000000 :=
  ⟨⟨⟨rfl, by simp⟩, by simp [seqP]; omega, by simp [seqP]; omega, by simp [seqP]; omega⟩, (show eB.size ≤ 1000000 by decide)⟩
theorem lst_ok (a : Int) (ps : List Int) (h : 0 ≤ a ∧ a < 1000) (hp : (ps.all fun p => scalarB p) = true) (hl : ps.length ≤ 1000) : PceOk (lstP a ps) ∧ (lstP a ps).2.2.2.1.size ≤ 1000000 := by
  have hg : Good (tB ps) ps := good_text (fun p hp2 => List.all_eq_true.1 hp p hp2)
  refine ⟨⟨hg, by simp [lstP]; omega, by simp [lstP], by simp [lstP]⟩, ?_⟩
  show (tB ps).size ≤ 1000000
  rw [hg.size]
  have := len_textL ps
  omega
theorem rus_all : (rusL.all fun p => scalarB p) = true := by decide +kernel
theorem frm_all : (frmL.all fun p => scalarB p) = true := by decide +kernel
theorem oth_all : (othL.all fun p => scalarB p) = true := by decide +kernel
theorem latP_ok : ∀ p ∈ latP, PceOk p ∧ p.2.2.2.1.size ≤ 1000000 := by
  intro p hp; simp only [latP, List.mem_cons, List.not_mem_nil, or_false] at hp; subst hp; exact seq_ok _ _ _ (by decide)
theorem rusP_ok : ∀ p ∈ rusP, PceOk p ∧ p.2.2.2.1.size ≤ 1000000 := by
  intro p hp; simp only [rusP, List.mem_cons, List.not_mem_nil, or_false] at hp
  rcases hp with rfl | rfl
  · exact seq_ok _ _ _ (by decide)
  · exact lst_ok _ _ (by decide) rus_all (by decide)
theorem ukrP_ok : ∀ p ∈ ukrP, PceOk p ∧ p.2.2.2.1.size ≤ 1000000 := by
  intro p hp; simp only [ukrP, List.mem_cons, List.not_mem_nil, or_false] at hp
  rcases hp with rfl | rfl | rfl | rfl | rfl | rfl <;> exact seq_ok _ _ _ (by decide)
theorem altP_ok : ∀ p ∈ altP, PceOk p ∧ p.2.2.2.1.size ≤ 1000000 := by
  intro p hp; simp only [altP, List.mem_cons, List.not_mem_nil, or_false] at hp
  rcases hp with rfl | rfl | rfl | rfl | rfl
  · exact seq_ok _ _ _ (by decide)
  · exact seq_ok _ _ _ (by decide)
  · exact lst_ok _ _ (by decide) frm_all (by decide)
  · exact seq_ok _ _ _ (by decide)
  · exact lst_ok _ _ (by decide) oth_all (by decide)
def madeB (l : List Pce) (L : List Pr) : Bool := match madeF [] l 0 with
  | .inl M => M == L
  | .inr _ => false
theorem madeB_eq {l : List Pce} {L : List Pr} (h : madeB l L = true) : madeF [] l 0 = .inl L := by
  unfold madeB at h
  generalize madeF [] l 0 = r at *
  cases r with
  | inl M => simp only [beq_iff_eq] at h; rw [h]
  | inr _ => cases h
def ownU : List Pr := [(164, 1108), (166, 1110), (167, 1111), (173, 1169), (180, 1028), (182, 1030), (183, 1031), (189, 1168)]
theorem lat_made : madeF [] latP 0 = .inl (setL 0) := madeB_eq (by decide +kernel)
theorem rus_made : madeF [] rusP 0 = .inl (setL 1) := madeB_eq (by decide +kernel)
theorem ukr_made : madeF [] ukrP 0 = .inl ownU := madeB_eq (by decide +kernel)
theorem alt_made : madeF [] altP 0 = .inl (setL 3) := madeB_eq (by decide +kernel)
theorem ukr_over : overL ownU (setL 1) = setL 2 := by
  have h : (overL ownU (setL 1) == setL 2) = true := by decide +kernel
  exact beq_iff_eq.1 h
/-! Decoding and encoding by a table's pairs. -/
/-- The sign that a table's last pair of a code tells. -/
def lsOf (L : List Pr) (n : Nat) : Option Int := L.foldl (fun o x => if x.1 = n then some x.2 else o) none
theorem lsOf_snoc (L : List Pr) (x : Pr) (n : Nat) : lsOf (L ++ [x]) n = if x.1 = n then some x.2 else lsOf L n := by
  unfold lsOf
  rw [List.foldl_append]; rfl
theorem ls_map (f : Nat → Int) (n : Nat) : ∀ N, lsOf ((List.range N).map fun m => (m, f m)) n = if n < N then some (f n) else none
  | 0 => rfl
  | N + 1 => by
    rw [List.range_succ, List.map_append, List.map_cons, List.map_nil, lsOf_snoc, ls_map f n N]
    by_cases h : N = n
    · subst h; simp
    · by_cases h2 : n < N
      · rw [if_neg h, if_pos h2, if_pos (by omega)]
      · rw [if_neg h, if_neg h2, if_neg (by omega)]
theorem ls_set (c n : Nat) (hn : n < 256) : lsOf (setL c) n = some (sgnL c n) := by
  unfold setL
  rw [ls_map, if_pos hn]
/-- The least code, below 256, of a sign. -/
def cdOf (L : List Pr) (p : Int) : Option Nat := (L.find? fun x => x.2 == p && decide (x.1 < 256)).map (·.1)
theorem cdOf_snoc (L : List Pr) (x : Pr) (p : Int) : cdOf (L ++ [x]) p = (cdOf L p).or (if x.2 = p ∧ x.1 < 256 then some x.1 else none) := by
  unfold cdOf
  rw [List.find?_append]
  cases h : L.find? (fun x => x.2 == p && decide (x.1 < 256)) with
  | some y => simp
  | none =>
    simp only [Option.map_none, Option.none_or, List.find?_cons, List.find?_nil]
    by_cases h2 : x.2 = p ∧ x.1 < 256
    · rw [if_pos h2]; simp [h2.1, h2.2]
    · rw [if_neg h2]
      have : (x.2 == p && decide (x.1 < 256)) = false := by
        rw [Bool.and_eq_false_iff]
        by_cases h3 : x.2 = p
        · right; simp; have := fun h4 => h2 ⟨h3, h4⟩; omega
        · left; simpa using h3
      rw [this]; rfl
theorem cdOf_some {L : List Pr} {p : Int} {n : Nat} (h : cdOf L p = some n) : n < 256 ∧ (n, p) ∈ L := by
  unfold cdOf at h
  cases h2 : L.find? (fun x => x.2 == p && decide (x.1 < 256)) with
  | none => rw [h2] at h; cases h
  | some y =>
    rw [h2] at h
    injection h with h
    have h3 := List.find?_some h2
    have h4 := List.mem_of_find?_eq_some h2
    simp only [Bool.and_eq_true, beq_iff_eq, decide_eq_true_eq] at h3
    obtain ⟨h5, h6⟩ := h3
    subst h
    exact ⟨h6, by rw [← h5]; exact h4⟩
theorem cd_set {c n : Nat} {p : Int} (h : cdOf (setL c) p = some n) : n < 256 ∧ sgnL c n = p := by
  obtain ⟨h1, h2⟩ := cdOf_some h
  unfold setL at h2
  obtain ⟨m, hm, h3⟩ := List.mem_map.1 h2
  injection h3 with h4 h5
  subst h4
  exact ⟨h1, h5⟩
def dcF (L : List Pr) : List UInt8 → Nat → List Int ⊕ Nat
  | [], _ => .inl []
  | x :: r, i => match lsOf L x.toNat with
    | none => .inr i
    | some p => match dcF L r (i + 1) with
      | .inl ps => .inl (p :: ps)
      | .inr j => .inr j
theorem dc_all (L : List Pr) : ∀ (bs : List UInt8) (ps : List Int) (i : Nat), bs.map (fun x => lsOf L x.toNat) = ps.map some → dcF L bs i = .inl ps
  | [], [], _, _ => rfl
  | [], _ :: _, _, h => by simp at h
  | _ :: _, [], _, h => by simp at h
  | x :: bs, p :: ps, i, h => by
    simp only [List.map_cons, List.cons.injEq] at h
    unfold dcF
    rw [h.1, dc_all L bs ps (i + 1) h.2]
theorem dc_bad (L : List Pr) : ∀ (k : Nat) (bs : List UInt8) (ps : List Int) (i : Nat) (x : UInt8), (bs.take k).map (fun x => lsOf L x.toNat) = ps.map some → bs[k]? = some x → lsOf L x.toNat = none → dcF L bs i = .inr (i + k)
  | 0, bs, ps, i, x, _, h2, h3 => by
    cases bs with
    | nil => simp at h2
    | cons y bs =>
      simp at h2; subst h2
      unfold dcF
      rw [h3]; rfl
  | k + 1, bs, ps, i, x, h1, h2, h3 => by
    cases bs with
    | nil => simp at h2
    | cons y bs =>
      cases ps with
      | nil => simp at h1
      | cons p ps =>
        simp only [List.take_succ_cons, List.map_cons, List.cons.injEq] at h1
        simp at h2
        unfold dcF
        rw [h1.1, dc_bad L k bs ps (i + 1) x h1.2 h2 h3]
        simp only [Sum.inr.injEq]; omega
theorem dc_set (c : Nat) (bs : List UInt8) (i : Nat) : dcF (setL c) bs i = .inl (bs.map fun x => sgnL c x.toNat) :=
  dc_all _ _ _ _ (by rw [List.map_map]; exact List.map_congr_left fun x _ => ls_set c _ x.toNat_lt)
def ecF (f : Int → Option Nat) : List Int → Nat → List UInt8 ⊕ Nat
  | [], _ => .inl []
  | p :: r, i => match f p with
    | none => .inr i
    | some c => match ecF f r (i + (Lib.encodeRune p).length) with
      | .inl cs => .inl (c.toUInt8 :: cs)
      | .inr j => .inr j
theorem ec_all (f : Int → Option Nat) : ∀ (ps : List Int) (cs : List Nat) (i : Nat), ps.map f = cs.map some → ecF f ps i = .inl (cs.map Nat.toUInt8)
  | [], [], _, _ => rfl
  | [], _ :: _, _, h => by simp at h
  | _ :: _, [], _, h => by simp at h
  | p :: ps, c :: cs, i, h => by
    simp only [List.map_cons, List.cons.injEq] at h
    unfold ecF
    rw [h.1, ec_all f ps cs _ h.2]; rfl
theorem ec_bad (f : Int → Option Nat) : ∀ (k : Nat) (ps : List Int) (cs : List Nat) (i : Nat) (p : Int), (ps.take k).map f = cs.map some → ps[k]? = some p → f p = none → ecF f ps i = .inr (i + (textL (ps.take k)).length)
  | 0, ps, cs, i, p, _, h2, h3 => by
    cases ps with
    | nil => simp at h2
    | cons q ps =>
      simp at h2; subst h2
      unfold ecF
      rw [h3]; simp [textL_nil]
  | k + 1, ps, cs, i, p, h1, h2, h3 => by
    cases ps with
    | nil => simp at h2
    | cons q ps =>
      cases cs with
      | nil => simp at h1
      | cons c cs =>
        simp only [List.take_succ_cons, List.map_cons, List.cons.injEq] at h1
        simp at h2
        unfold ecF
        rw [h1.1, ec_bad f k ps cs _ p h1.2 h2 h3, List.take_succ_cons, textL_cons, List.length_append]
        simp only [Sum.inr.injEq]; omega
/-- What is encoded is decoded as it was. -/
theorem ec_dc (c : Nat) : ∀ (ps : List Int) (i : Nat) (bs : List UInt8), ecF (cdOf (setL c)) ps i = .inl bs → bs.map (fun x => sgnL c x.toNat) = ps
  | [], _, bs, h => by simp [ecF] at h; subst h; rfl
  | p :: ps, i, bs, h => by
    unfold ecF at h
    cases h1 : cdOf (setL c) p with
    | none => rw [h1] at h; cases h
    | some n =>
      rw [h1] at h
      simp only at h
      cases h2 : ecF (cdOf (setL c)) ps (i + (Lib.encodeRune p).length) with
      | inr j => rw [h2] at h; cases h
      | inl cs =>
        rw [h2] at h
        injection h with h
        subst h
        obtain ⟨h3, h4⟩ := cd_set h1
        rw [List.map_cons, ec_dc c ps _ cs h2]
        congr 1
        rw [← h4]
        congr 1
        simp; omega
def injB (c : Nat) : Bool := (List.range 256).all fun n => cdOf (setL c) (sgnL c n) == some n
theorem inj_all : (List.range 4).all injB = true := by decide +kernel
theorem sc_all : (List.range 4).all (fun c => (List.range 256).all fun n => scalarB (sgnL c n)) = true := by decide +kernel
theorem cd_sgn {c n : Nat} (hc : c ≤ 3) (hn : n < 256) : cdOf (setL c) (sgnL c n) = some n := by
  have h := List.all_eq_true.1 (List.all_eq_true.1 inj_all c (List.mem_range.2 (by omega))) n (List.mem_range.2 hn)
  simpa using h
theorem sgn_sc {c n : Nat} (hc : c ≤ 3) (hn : n < 256) : scalarB (sgnL c n) = true :=
  List.all_eq_true.1 (List.all_eq_true.1 sc_all c (List.mem_range.2 (by omega))) n (List.mem_range.2 hn)
/-- What is decoded is encoded as it was. -/
theorem dc_ec {c : Nat} (hc : c ≤ 3) (bs : List UInt8) (i : Nat) : ecF (cdOf (setL c)) (bs.map fun x => sgnL c x.toNat) i = .inl bs := by
  have h := ec_all (cdOf (setL c)) (bs.map fun x => sgnL c x.toNat) (bs.map fun x => x.toNat) i (by
    rw [List.map_map, List.map_map]
    exact List.map_congr_left fun x _ => cd_sgn hc x.toNat_lt)
  rw [h, List.map_map]
  congr 1
  conv => rhs; rw [← List.map_id bs]
  exact List.map_congr_left fun x _ => by simp
end Go.Proofs.YtpnjandlpbjddabDoor
