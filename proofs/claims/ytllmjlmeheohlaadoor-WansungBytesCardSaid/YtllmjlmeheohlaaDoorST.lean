/- Chapter 07 in plain numbers: the rows that are no syllables: the sign of a code, the code of a sign. No program in sight; no condition. -/
import Derived.Test.YtllmjlmeheohlaaDoorHex
set_option maxRecDepth 100000
set_option maxHeartbeats 1000000
namespace Go.Proofs.YtllmjlmeheohlaaDoor
open Go

def LA1 : List Int := [
  12288, 12289, 12290, 183, 8229, 8230, 168, 12291, 173, 8213, 8741, 65340, 8764, 8216, 8217, 8220, 8221, 12308, 12309, 12296,
  12297, 12298, 12299, 12300, 12301, 12302, 12303, 12304, 12305, 177, 215, 247, 8800, 8804, 8805, 8734, 8756, 176, 8242, 8243,
  8451, 8491, 65504, 65505, 65509, 9794, 9792, 8736, 8869, 8978, 8706, 8711, 8801, 8786, 167, 8251, 9734, 9733, 9675, 9679,
  9678, 9671, 9670, 9633, 9632, 9651, 9650, 9661, 9660, 8594, 8592, 8593, 8595, 8596, 12307, 8810, 8811, 8730, 8765, 8733,
  8757, 8747, 8748, 8712, 8715, 8838, 8839, 8834, 8835, 8746, 8745, 8743, 8744, 65506]
def LA2 : List Int := [
  8658, 8660, 8704, 8707, 180, 65374, 711, 728, 733, 730, 729, 184, 731, 161, 191, 720, 8750, 8721, 8719, 164,
  8457, 8240, 9665, 9664, 9655, 9654, 9828, 9824, 9825, 9829, 9831, 9827, 8857, 9672, 9635, 9680, 9681, 9618, 9636, 9637,
  9640, 9639, 9638, 9641, 9832, 9743, 9742, 9756, 9758, 182, 8224, 8225, 8597, 8599, 8601, 8598, 8600, 9837, 9833, 9834,
  9836, 12927, 12828, 8470, 13255, 8482, 13250, 13272, 8481, 8364, 174]
def LA6 : List Int := [
  9472, 9474, 9484, 9488, 9496, 9492, 9500, 9516, 9508, 9524, 9532, 9473, 9475, 9487, 9491, 9499, 9495, 9507, 9523, 9515,
  9531, 9547, 9504, 9519, 9512, 9527, 9535, 9501, 9520, 9509, 9528, 9538, 9490, 9489, 9498, 9497, 9494, 9493, 9486, 9485,
  9502, 9503, 9505, 9506, 9510, 9511, 9513, 9514, 9517, 9518, 9521, 9522, 9525, 9526, 9529, 9530, 9533, 9534, 9536, 9537,
  9539, 9540, 9541, 9542, 9543, 9544, 9545, 9546]
def SPN : List (Int × Int × Int) := [(41889, 65281, 59), (41948, 65510, 1), (41949, 65341, 33), (41982, 65507, 1), (42145, 12593, 94), (42401, 8560, 10), (42416, 8544, 10), (42433, 913, 17), (42450, 931, 7), (42465, 945, 17), (42482, 963, 7), (43681, 12353, 83), (43937, 12449, 86), (44193, 1040, 6), (44199, 1025, 1), (44200, 1046, 26), (44241, 1072, 6), (44247, 1105, 1), (44248, 1078, 26)]

def listW (lead : Int) : List Int := if lead = 161 then LA1 else if lead = 162 then LA2 else if lead = 166 then LA6 else []
def spanF : List (Int × Int × Int) → Int → Int
  | [], _ => 0
  | (c, t, n) :: l, code => if c ≤ code ∧ code < c + n then t + (code - c) else spanF l code
def spanC : List (Int × Int × Int) → Int → Int
  | [], _ => -1
  | (c, t, n) :: l, p => if t ≤ p ∧ p - t < n then c + (p - t) else spanC l p
/-- The sign of two bytes in the rows that is no syllable; 0: there is none. -/
def otherZ (lead b : Int) : Int := if b < 161 ∨ 254 < b then 0 else if (listW lead).isEmpty then spanF SPN (lead * 256 + b) else (listW lead).getD (b - 161).toNat 0
/-- The code of a sign that is no syllable; -1: there is none. -/
def codeW (p : Int) : Int := if 0 ≤ fnd LA1 p then 41377 + fnd LA1 p else if 0 ≤ fnd LA2 p then 41633 + fnd LA2 p else if 0 ≤ fnd LA6 p then 42657 + fnd LA6 p else spanC SPN p
/-- The document's. -/
def spanR (b fr la p : Int) : Int := if b < fr ∨ la < b then 0 else p + (b - fr)
def rowZ (lead b : Int) : Int :=
  if lead = 161 then LA1.getD (b - 161).toNat 0 else if lead = 162 then (if b - 161 < 71 then LA2.getD (b - 161).toNat 0 else 0)
  else if lead = 163 then (if b = 220 then 65510 else if b = 254 then 65507 else 65281 + b - 161)
  else if lead = 164 then 12593 + b - 161
  else if lead = 165 then spanR b 161 170 8560 + spanR b 176 185 8544 + spanR b 193 209 913 + spanR b 210 216 931 + spanR b 225 241 945 + spanR b 242 248 963
  else if lead = 166 then (if b - 161 < 68 then LA6.getD (b - 161).toNat 0 else 0)
  else if lead = 170 then spanR b 161 243 12353
  else if lead = 171 then spanR b 161 246 12449
  else if lead = 172 then spanR b 161 166 1040 + spanR b 167 167 1025 + spanR b 168 193 1046 + spanR b 209 214 1072 + spanR b 215 215 1105 + spanR b 216 241 1078
  else 0
def eqI (a b : Int) : Bool := match a, b with
  | .ofNat m, .ofNat n => Nat.beq m n
  | .negSucc m, .negSucc n => Nat.beq m n
  | _, _ => false
theorem eqI_eq {a b : Int} (h : eqI a b = true) : a = b := by
  cases a <;> cases b <;> simp only [eqI, Bool.false_eq_true] at h
  · rw [Nat.eq_of_beq_eq_true h]
  · rw [Nat.eq_of_beq_eq_true h]
def bytesW : List Int := (List.range 94).map fun i => Int.ofNat (i + 161)
def leadsW : List Int := (List.range 12).map fun i => Int.ofNat (i + 161)
theorem mem_bytesW {b : Int} (h : 161 ≤ b ∧ b ≤ 254) : b ∈ bytesW := by
  unfold bytesW
  rw [List.mem_map]
  exact ⟨(b - 161).toNat, List.mem_range.2 (by omega), by show ((_ : Nat) : Int) = b; omega⟩
theorem mem_leadsW {b : Int} (h : 161 ≤ b ∧ b ≤ 172) : b ∈ leadsW := by
  unfold leadsW
  rw [List.mem_map]
  exact ⟨(b - 161).toNat, List.mem_range.2 (by omega), by show ((_ : Nat) : Int) = b; omega⟩
theorem row_chk : leadsW.all (fun l => bytesW.all fun b => eqI (otherZ l b) (rowZ l b)) = true := by decide +kernel
theorem code_chk : leadsW.all (fun l => bytesW.all fun b => eqI (otherZ l b) 0 || eqI (codeW (otherZ l b)) (l * 256 + b)) = true := by decide +kernel
theorem small_chk : leadsW.all (fun l => bytesW.all fun b => eqI (otherZ l b) 0 || (decide (0 < otherZ l b) && decide (otherZ l b ≤ 65535) && !(decide (44032 ≤ otherZ l b) && decide (otherZ l b ≤ 55203)))) = true := by decide +kernel
theorem list_chk : [161, 162, 166].all (fun l : Int => (List.range (listW l).length).all fun k => eqI (otherZ l (161 + Int.ofNat k)) ((listW l).getD k 0)) = true := by decide +kernel
theorem span_chk : SPN.all (fun s => (List.range s.2.2.toNat).all fun k => eqI (otherZ ((s.1 + Int.ofNat k) / 256) ((s.1 + Int.ofNat k) % 256)) (s.2.1 + Int.ofNat k)) = true := by decide +kernel
theorem spn_chk : SPN.all (fun s => decide (161 ≤ s.1 / 256) && decide (s.1 / 256 ≤ 172) && decide (161 ≤ s.1 % 256) && decide (s.1 % 256 + s.2.2 ≤ 255) && decide (0 < s.2.1) && decide (s.2.1 + s.2.2 ≤ 65536) && decide (0 < s.2.2)) = true := by decide +kernel
theorem len_chk : LA1.length = 94 ∧ LA2.length = 71 ∧ LA6.length = 68 := by decide +kernel
theorem pos_chk : (LA1 ++ LA2 ++ LA6).all (fun p => decide (0 < p) && decide (p ≤ 65535)) = true := by decide +kernel
end Go.Proofs.YtllmjlmeheohlaaDoor
