/- Bytes as lists, and what chapter 22 says of them: digits, capitals, forms. No program in sight; no condition. -/
import Derived.Test.YtlcgfgbdehdndaaDoorMem
set_option maxRecDepth 100000
namespace Go.Proofs.YtlcgfgbdehdndaaDoor
open Go

def B (l : List UInt8) : ByteArray := ⟨l.toArray⟩
theorem B_data (l : List UInt8) : (B l).data.toList = l := by simp [B]
theorem B_size (l : List UInt8) : (B l).size = l.length := by simp [B, ByteArray.size]
theorem B_of (s : ByteArray) : s = B s.data.toList := by simp [B]
theorem B_inj {l r : List UInt8} (h : B l = B r) : l = r := by rw [← B_data l, h, B_data]
theorem B_ext (l : List UInt8) (a b : Nat) : (B l).extract a b = B ((l.take b).drop a) := by
  rw [B_of ((B l).extract a b)]
  congr 1
  simp [B, ByteArray.data_extract, List.extract, List.drop_take]
theorem B_ext2 (l : List UInt8) (a b : Nat) : (B l).extract a b = B ((l.drop a).take (b - a)) := by
  rw [B_ext, List.drop_take]
theorem B_nil : B [] = ⟨#[]⟩ := rfl
theorem drop_at (s : ByteArray) (i : Nat) (h : i < s.size) : s.data.toList.drop i = s[i] :: s.data.toList.drop (i + 1) := by
  rw [List.drop_eq_getElem_cons (by simpa using h)]; rfl
theorem len_data (s : ByteArray) : s.data.toList.length = s.size := by simp

def digitB (c : UInt8) : Bool := decide (48 ≤ c.toNat) && decide (c.toNat ≤ 57)
def capB (c : UInt8) : Bool := digitB c || (decide (65 ≤ c.toNat) && decide (c.toNat ≤ 90))
def capsB (l : List UInt8) : Bool := !l.isEmpty && l.all capB
def likeB : List UInt8 → List UInt8 → Bool
  | [], [] => true
  | a :: s, f :: r => (if f = 48 then digitB a else a == f) && likeB s r
  | _, _ => false
theorem like_len : ∀ s f : List UInt8, likeB s f = true → s.length = f.length
  | [], [], _ => rfl
  | a :: s, f :: r, h => by
    simp only [likeB, Bool.and_eq_true] at h
    simp [like_len s r h.2]
  | [], _ :: _, h => by simp [likeB] at h
  | _ :: _, [], h => by simp [likeB] at h
theorem u8_ne {a b : UInt8} (h : a ≠ b) : a.toNat ≠ b.toNat := fun e => h (UInt8.toNat_inj.1 e)
end Go.Proofs.YtlcgfgbdehdndaaDoor
