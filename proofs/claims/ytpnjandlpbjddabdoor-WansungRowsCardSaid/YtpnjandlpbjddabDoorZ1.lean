/- Words for memory: a slice that reads as a list; small laws on them. After the guide's blocks to copy. -/
import Derived.Below
import Derived.Laws.OwnMore
import Derived.Deep.AppendLies
import Derived.Deep.Draws
import Derived.Lib.Hide
import Derived.WalkKit
import Derived.Lib.RuneBytes
import Derived.Lib.DecodeN
import Derived.Test.YtpnjandlpbjddabDoorShelf
import Derived.Lib.IndexBytes
import Derived.Shelf.Unicode.DecodeSlow
import Derived.Test.YtpnjandlpbjddabDoorRows
import Derived.WalkSpells
import Derived.Outline
import Derived.Deep.DeepFit
import Derived.Test.YtpnjandlpbjddabDoorCards
import Derived.Test.YtpnjandlpbjddabDoorTie
import Derived.Lib.LaidU8
import Derived.Lay
import Derived.LaidMore
import Derived.MakeChecks
import Derived.ProofKit
import Derived.OpenShut
import Derived.Deep.DeepHandedRow
import Derived.Deep.DeepWitnessRowRef
import Derived.Lib.Index
import Derived.Lib.BitFns
import Derived.Lib.TrailingZeros
namespace Go.Proofs.YtpnjandlpbjddabDoor
open Go Go.RowKit

theorem block_of_add (a : Addr) (n : Nat) : (a.add n).block = a.block := by unfold Addr.add; split <;> rfl
theorem add_of_add (a : Addr) (i j : Nat) : (a.add i).add j = a.add (i + j) := by
  unfold Addr.add
  by_cases hi : i = 0 <;> by_cases hj : j = 0 <;> simp [hi, hj, Nat.add_assoc]

/-- The slice '.slice A n _' holds the cells xs, below block B. -/
def Reads (w : World) (B size : Nat) (A : Option Addr) (n : Nat) (xs : List Value) : Prop :=
  xs.length = n * size ∧ (0 < n → ∃ ad, A = some ad ∧ ad.block < B ∧ ∀ j u, xs[j]? = some u → w.cell? (ad.add j) = some u)

section
variable {w w' : World} {B B' size n : Nat} {A : Option Addr} {xs : List Value}
theorem Reads.none_ : Reads w B size A 0 [] := ⟨by simp, fun h => absurd h (by omega)⟩
theorem Reads.at_ {k : Nat} (h : Reads w B 1 A n xs) (hk : k < n) : ∃ ad u, A = some ad ∧ ad.block < B ∧ xs[k]? = some u ∧ w.cell? (ad.add k) = some u := by
  obtain ⟨ad, e, hb, hc⟩ := h.2 (by omega)
  have hl : k < xs.length := by have := h.1; omega
  exact ⟨ad, xs[k], e, hb, List.getElem?_eq_getElem hl, hc k _ (List.getElem?_eq_getElem hl)⟩
theorem Reads.keep (h : Reads w B size A n xs) (hk : ∀ p : Addr, p.block < B → w'.cell? p = w.cell? p) : Reads w' B size A n xs :=
  ⟨h.1, fun hn => by
    obtain ⟨ad, e, hb, hc⟩ := h.2 hn
    exact ⟨ad, e, hb, fun j u hu => (hk _ (by rw [block_of_add]; exact hb)).trans (hc j u hu)⟩⟩
theorem Reads.more (h : Reads w B size A n xs) (hB : B ≤ B') : Reads w B' size A n xs :=
  ⟨h.1, fun hn => by
    obtain ⟨ad, e, hb, hc⟩ := h.2 hn
    exact ⟨ad, e, by omega, hc⟩⟩
theorem Reads.below (h : Reads w B size A n xs) (hb : Below B w w') : Reads w' B size A n xs := h.keep fun _ hp => hb.cell hp
theorem Reads.drew (h : Reads w B size A n xs) : Reads w.drew B size A n xs := h
theorem Reads.drewN (h : Reads w B size A n xs) (k : Nat) : Reads (w.drewN k) B size A n xs := h
theorem Reads.alloc (h : Reads w B size A n xs) (hB : B ≤ w.heap.size) (o : Obj) : Reads (w.alloc o) B size A n xs := h.keep fun p hp => World.cell?_alloc_lt w o p (by omega)
theorem Reads.setCell (h : Reads w B size A n xs) {p : Addr} (hB : B ≤ p.block) (u : Value) : Reads (w.setCell p u) B size A n xs :=
  h.keep fun q hq => World.cell?_setCell_other w p q u (fun e => by subst e; omega)
theorem Reads.grown (h : Reads w B size A n xs) {row : Option Nat} (hg : w.grownBy w' row) (hB : B ≤ w.heap.size) (hr : ∀ g, row = some g → B ≤ g) : Reads w' B size A n xs :=
  h.keep fun p hp => World.cell?_of_block (hg.block p.block (by omega) (fun e => by have := hr _ e.symm; omega))
theorem Reads.cut (h : Reads w B size A n xs) {k cap : Nat} (hk : k ≤ n) (hc : n ≤ cap) :
    Reads w B size (if cap = k then A else A.map (·.add (k * size))) (n - k) (xs.drop (k * size)) := by
  refine ⟨by rw [List.length_drop, h.1, Nat.sub_mul], fun hn => ?_⟩
  obtain ⟨ad, rfl, hb, hcell⟩ := h.2 (by omega)
  rw [if_neg (by omega)]
  refine ⟨ad.add (k * size), rfl, by rw [block_of_add]; exact hb, fun j u hu => ?_⟩
  rw [add_of_add]
  exact hcell _ u (by rw [← hu, List.getElem?_drop])
/-- What is owned reads. -/
theorem Reads.of_own {base : Nat} {e : TypeId} {v : Value} (h : w.ownsRow base e size v n xs) : ∃ A c, v = .slice A n c ∧ n ≤ c ∧ Reads w w.heap.size size A n xs := by
  rcases h.2 with ⟨rfl, rfl⟩ | ⟨g, cap, cur, rfl, hb, hg, hnc, hcm, hcs, htake⟩
  · have hx : xs = [] := List.eq_nil_of_length_eq_zero (by simpa using h.1)
    subst hx
    exact ⟨none, 0, rfl, Nat.le_refl _, .none_⟩
  · refine ⟨_, _, rfl, hnc, h.1, fun _ => ⟨_, rfl, ?_, h.cells (g := g) rfl⟩⟩
    exact (Array.getElem?_eq_some_iff.1 hg).1
end

/-- A slice of numbers of one kind. -/
def Nums (w : World) (B : Nat) (k : IntKind) (A : Option Addr) (zs : List Int) : Prop := Reads w B 1 A zs.length (zs.map (Value.int k))
section
variable {w w' : World} {B : Nat} {k : IntKind} {A : Option Addr} {zs : List Int}
theorem Nums.below (h : Nums w B k A zs) (hb : Below B w w') : Nums w' B k A zs := Reads.below h hb
theorem Nums.more {B' : Nat} (h : Nums w B k A zs) (hb : B ≤ B') : Nums w B' k A zs := Reads.more h hb
theorem Nums.at_ {i : Nat} (h : Nums w B k A zs) (hi : i < zs.length) : ∃ ad, A = some ad ∧ ad.block < B ∧ w.cell? (ad.add i) = some (.int k (zs.getD i 0)) := by
  obtain ⟨ad, u, e, hb, hu, hc⟩ := Reads.at_ h hi
  refine ⟨ad, e, hb, ?_⟩
  rw [hc]
  have : (zs.map (Value.int k))[i]? = some (.int k (zs.getD i 0)) := by simp [List.getD, hi]
  rw [← hu, this]
theorem Nums.of_own {base : Nat} {e : TypeId} {v : Value} {n : Nat} (h : w.ownsRow base e 1 v n (zs.map (Value.int k))) : ∃ A c, v = .slice A zs.length c ∧ zs.length ≤ c ∧ n = zs.length ∧ Nums w w.heap.size k A zs := by
  have hn : n = zs.length := by simpa using h.1.symm
  subst hn
  obtain ⟨A, c, hv, hc, hr⟩ := Reads.of_own h
  exact ⟨A, c, hv, hc, rfl, hr⟩
end

theorem ret_bool {a b : Bool} (h : a = b) : Ending.returned (.bool a) = .returned (.bool b) := by rw [h]
theorem ret_int {k : IntKind} {a b : Int} (h : a = b) : Ending.returned (.int k a) = .returned (.int k b) := by rw [h]
theorem ret_str {a b : ByteArray} (h : a = b) : Ending.returned (.string a) = .returned (.string b) := by rw [h]

theorem bcell {W w1 : World} (hb : Below W.heap.size W w1) : (∀ b o, b < W.heap.size → w1.cell? ⟨b, o, none⟩ = W.cell? ⟨b, o, none⟩) ∧ (∀ b o, b < W.heap.size → w1.frozen? ⟨b, o, none⟩ = W.frozen? ⟨b, o, none⟩) :=
  ⟨fun b o h => hb.cell (p := ⟨b, o, none⟩) h, fun b o h => hb.frozen (p := ⟨b, o, none⟩) h⟩
theorem below_drewN {B : Nat} {a w : World} (h : Below B a w) (n : Nat) : Below B a (w.drewN n) := ⟨h.os, h.tape, h.output, h.size, h.block⟩
/-- An append onto a row of the call's own, whose one new cell lay in a new block. -/
theorem below_grownOwn {B base : Nat} {e : TypeId} {size n : Nat} {v : Value} {xs : List Value} {a w w' : World} (h : Below B a w) (hown : w.ownsRow base e size v n xs) (hg : w.grownBy w' v.ownBlock) (hB : B ≤ w.heap.size) (hb : B ≤ base) : Below B a w' :=
  h.grown hg hB fun k hk => by have := (hown.lt k hk).1; omega

/-- From behind new blocks to what was there before them. -/
theorem below_a1 {w w1 : World} {o : Obj} (h : Below (w.alloc o).heap.size (w.alloc o) w1) : Below w.heap.size w w1 :=
  ((Below.refl _ _).alloc (Nat.le_refl _) _).trans (h.mono (by simp))
theorem below_a2 {w w1 : World} {o o' : Obj} (h : Below ((w.alloc o).alloc o').heap.size ((w.alloc o).alloc o') w1) : Below w.heap.size w w1 := below_a1 (below_a1 h)
theorem own_below {w w1 : World} {base : Nat} {e : TypeId} {size : Nat} {v : Value} {n : Nat} {xs : List Value} (h : w.ownsRow base e size v n xs) (hb : Below w.heap.size w w1) : w1.ownsRow base e size v n xs :=
  h.kept (row := none) ⟨hb.os, hb.tape, hb.output, hb.size, fun k hk _ => hb.block k hk⟩ (by cases v.ownBlock <;> simp)
theorem sz_a1 {w w1 : World} {o : Obj} (h : Below (w.alloc o).heap.size (w.alloc o) w1) : w.heap.size + 1 ≤ w1.heap.size := by
  have := h.size
  simpa using this
/-- A new box of two cells stands while what lies above it turns. -/
theorem box2 {w wr : World} {T : TypeId} {a b : Value} (hb : Below (w.heap.size + 1) (w.alloc (.cells #[a, b] T)) wr) :
    wr.cell? ⟨w.heap.size, 0, none⟩ = some a ∧ wr.cell? ⟨w.heap.size, 1, none⟩ = some b ∧ wr.frozen? ⟨w.heap.size, 0, none⟩ = false ∧ wr.frozen? ⟨w.heap.size, 1, none⟩ = false ∧ w.heap.size < wr.heap.size := by
  have h1 := hb.size
  simp only [World.size_alloc] at h1
  have hl : w.heap.size < w.heap.size + 1 := Nat.lt_succ_self _
  have e := heap_alloc_new w (.cells #[a, b] T)
  refine ⟨?_, ?_, ?_, ?_, by omega⟩
  · rw [hb.cell (p := ⟨w.heap.size, 0, none⟩) hl, cell_of_row _ w.heap.size 0 _ T (0, 0) e]; rfl
  · rw [hb.cell (p := ⟨w.heap.size, 1, none⟩) hl, cell_of_row _ w.heap.size 1 _ T (0, 0) e]; rfl
  · rw [hb.frozen (p := ⟨w.heap.size, 0, none⟩) hl, frozen_of_row _ w.heap.size 0 _ T e]
  · rw [hb.frozen (p := ⟨w.heap.size, 1, none⟩) hl, frozen_of_row _ w.heap.size 1 _ T e]
end Go.Proofs.YtpnjandlpbjddabDoor

/- Small laws of the model's operations, over any program: a row of bytes as a string. -/
namespace Go.Proofs.YtpnjandlpbjddabDoor
open Go Go.RowKit
section
variable {P : Program}
theorem conv_nums (src dst e : TypeId) (hs : P.underlying src = some (.slice e)) (he : P.underlying e = some (.int .u8)) (hd : P.underlying dst = some .string) (w : World) {B : Nat} {A : Option Addr} {zs : List Int} (h : Nums w B .u8 A zs) (c : Nat) :
    (convert src dst (.slice A zs.length c)).run P w = .ok (.string (strOfNums zs)) w := by
  by_cases h0 : 0 < zs.length
  · obtain ⟨ad, rfl, _, hc⟩ := h.2 h0
    have hl : (loadCells ad zs.length).run P w = .ok (zs.map (Value.int .u8)).toArray w := by
      have := run_loadCells_list (P := P) w ad (zs.map (Value.int .u8)) hc
      simpa using this
    rw [run_convert_bytes_string w src dst e _ _ c hs he hd, run_bytesToString w _ _ c zs hl, foldl_push_bytes]
    simp [strOfNums, ByteArray.empty, ByteArray.emptyWithCapacity]
    rfl
  · have hz : zs = [] := List.eq_nil_of_length_eq_zero (by omega)
    subst hz
    rw [run_convert_bytes_string w src dst e _ _ c hs he hd]
    cases A with
    | none => simp [Conv.bytesToString, strOfNums]; rfl
    | some ad =>
      have hl : (loadCells ad 0).run P w = .ok ([].map (Value.int .u8)).toArray w := run_loadCells_list (P := P) w ad [] (by simp)
      rw [show (([] : List Int).length) = 0 from rfl, run_bytesToString w ad 0 c [] hl]
      simp [strOfNums, ByteArray.empty, ByteArray.emptyWithCapacity]
      rfl
theorem conv_own (src dst e : TypeId) (hs : P.underlying src = some (.slice e)) (he : P.underlying e = some (.int .u8)) (hd : P.underlying dst = some .string) (w : World) {base : Nat} {v : Value} {n : Nat} {zs : List Int} (h : w.ownsRow base e 1 v n (zs.map (Value.int .u8))) :
    (convert src dst v).run P w = .ok (.string (strOfNums zs)) w := by
  obtain ⟨A, c, rfl, _, _, hn⟩ := Nums.of_own h
  exact conv_nums src dst e hs he hd w hn c
theorem nums_new (w : World) (e : TypeId) (zs : List Int) (k : IntKind) : Nums (w.alloc (.cells (zs.map (Value.int k)).toArray e)) (w.heap.size + 1) k (some ⟨w.heap.size, 0, none⟩) zs := by
  refine ⟨by simp, fun _ => ⟨_, rfl, by simp, fun j u hu => ?_⟩⟩
  have hadd : (⟨w.heap.size, 0, none⟩ : Addr).add j = ⟨w.heap.size, j, none⟩ := by unfold Addr.add; split <;> simp_all
  rw [hadd, cell_of_row _ w.heap.size j _ e (0, 0) (heap_alloc_new w _)]
  simpa using hu
variable (src dst e : TypeId) (hs : P.underlying src = some (.slice e)) (he : P.underlying e = some (.int .u8)) (hd : P.underlying dst = some .string)
include hs he hd
theorem conv1 (w : World) (a : Int) (c : Nat) : (convert src dst (.slice (some ⟨w.heap.size, 0, none⟩) 1 c)).run P (w.alloc (.cells #[.int .u8 a] e)) = .ok (.string (strOfNums [a])) (w.alloc (.cells #[.int .u8 a] e)) :=
  conv_nums src dst e hs he hd _ (nums_new w e [a] .u8) c
theorem conv2 (w : World) (a b : Int) (c : Nat) : (convert src dst (.slice (some ⟨w.heap.size, 0, none⟩) 2 c)).run P (w.alloc (.cells #[.int .u8 a, .int .u8 b] e)) = .ok (.string (strOfNums [a, b])) (w.alloc (.cells #[.int .u8 a, .int .u8 b] e)) :=
  conv_nums src dst e hs he hd _ (nums_new w e [a, b] .u8) c
theorem conv3 (w : World) (a b d : Int) (c : Nat) : (convert src dst (.slice (some ⟨w.heap.size, 0, none⟩) 3 c)).run P (w.alloc (.cells #[.int .u8 a, .int .u8 b, .int .u8 d] e)) = .ok (.string (strOfNums [a, b, d])) (w.alloc (.cells #[.int .u8 a, .int .u8 b, .int .u8 d] e)) :=
  conv_nums src dst e hs he hd _ (nums_new w e [a, b, d] .u8) c
theorem conv4 (w : World) (a b d f : Int) (c : Nat) : (convert src dst (.slice (some ⟨w.heap.size, 0, none⟩) 4 c)).run P (w.alloc (.cells #[.int .u8 a, .int .u8 b, .int .u8 d, .int .u8 f] e)) = .ok (.string (strOfNums [a, b, d, f])) (w.alloc (.cells #[.int .u8 a, .int .u8 b, .int .u8 d, .int .u8 f] e)) :=
  conv_nums src dst e hs he hd _ (nums_new w e [a, b, d, f] .u8) c
end
theorem strOfNums_enc (p : Int) : strOfNums (Lib.encodeRuneZ p) = ⟨(Lib.encodeRune p).toArray⟩ := by
  unfold strOfNums Lib.encodeRune
  congr 1
end Go.Proofs.YtpnjandlpbjddabDoor

/- UTF-8 as plain lists: signs, their bytes, the decoding of a list's head, and that every list of bytes is signs' bytes and a rest that begins none. No program in sight. -/
namespace Go.Proofs.YtpnjandlpbjddabDoor
open Go

def scalarB (p : Int) : Bool := decide (0 ≤ p ∧ p ≤ 1114111 ∧ (p < 55296 ∨ 57343 < p))
theorem scalarB_iff {p : Int} : scalarB p = true ↔ (0 ≤ p ∧ p ≤ 1114111 ∧ (p < 55296 ∨ 57343 < p)) := by simp [scalarB]
def textL (ps : List Int) : List UInt8 := ps.flatMap Lib.encodeRune
def decL (l : List UInt8) : Nat × Nat := Lib.decodeN l.length (l.getD 0 0).toNat (l.getD 1 0).toNat (l.getD 2 0).toNat (l.getD 3 0).toNat
def errD (d : Nat × Nat) : Prop := d.1 = 65533 ∧ d.2 ≤ 1
instance (d : Nat × Nat) : Decidable (errD d) := inferInstanceAs (Decidable (_ ∧ _))

theorem textL_nil : textL [] = [] := rfl
theorem textL_cons (p : Int) (ps : List Int) : textL (p :: ps) = Lib.encodeRune p ++ textL ps := rfl
theorem textL_append (a b : List Int) : textL (a ++ b) = textL a ++ textL b := by simp [textL]
theorem textL_snoc (a : List Int) (p : Int) : textL (a ++ [p]) = textL a ++ Lib.encodeRune p := by simp [textL]

theorem getB (s : ByteArray) (i : Nat) : s.get! i = s.data.toList.getD i 0 := by
  by_cases h : i < s.size
  · have : s.get! i = s.data[i]'h := by simp [ByteArray.get!, getElem!_pos, h]
    rw [this]
    have h2 : i < s.data.toList.length := by simpa using h
    simp [List.getD, List.getElem?_eq_getElem h2]
  · have h3 : s.data.size ≤ i := by simpa using h
    have : s.get! i = default := by
      have e : ¬ i < s.data.size := by omega
      simp only [ByteArray.get!, getElem!_def, Array.getElem?_eq_none h3]
    rw [this]
    have h2 : s.data.toList.length ≤ i := by simpa using h
    simp [List.getD, List.getElem?_eq_none h2]
    rfl

theorem decode_drop (s : ByteArray) (i : Nat) : Utf8.decode s i = decL (s.data.toList.drop i) := by
  have hl : (s.data.toList.drop i).length = s.size - i := by simp
  have hg : ∀ j, (s.data.toList.drop i).getD j 0 = s.data.toList.getD (i + j) 0 := by
    intro j
    simp [List.getD, List.getElem?_drop]
  rw [Lib.decode_at, decL, hl, hg 0, hg 1, hg 2, hg 3, getB, getB, getB, getB]
  rfl

theorem toNat_u8 (n : Int) (h0 : 0 ≤ n) (h1 : n < 256) : (n.toNat.toUInt8).toNat = n.toNat := by
  have := h0
  simp [Nat.toUInt8, UInt8.toNat_ofNat']
  omega

theorem enc_one {p : Int} (h0 : 0 ≤ p) (h1 : p ≤ 127) : Lib.encodeRune p = [p.toNat.toUInt8] := by
  simp [Lib.encodeRune, Lib.encodeRuneZ_one h0 h1]
theorem enc_two {p : Int} (h0 : 128 ≤ p) (h1 : p ≤ 2047) : Lib.encodeRune p = [(192 + p / 64).toNat.toUInt8, (128 + p % 64).toNat.toUInt8] := by
  simp [Lib.encodeRune, Lib.encodeRuneZ_two h0 h1]
theorem enc_three {p : Int} (h : (2048 ≤ p ∧ p < 55296) ∨ (57343 < p ∧ p ≤ 65535)) : Lib.encodeRune p = [(224 + p / 4096).toNat.toUInt8, (128 + p / 64 % 64).toNat.toUInt8, (128 + p % 64).toNat.toUInt8] := by
  simp [Lib.encodeRune, Lib.encodeRuneZ_three h]
theorem enc_four {p : Int} (h0 : 65536 ≤ p) (h1 : p ≤ 1114111) : Lib.encodeRune p = [(240 + p / 262144).toNat.toUInt8, (128 + p / 4096 % 64).toNat.toUInt8, (128 + p / 64 % 64).toNat.toUInt8, (128 + p % 64).toNat.toUInt8] := by
  simp [Lib.encodeRune, Lib.encodeRuneZ_four h0 h1]

theorem enc_len (p : Int) : 1 ≤ (Lib.encodeRune p).length ∧ (Lib.encodeRune p).length ≤ 4 := by
  have := Lib.encodeRuneZ_length p
  simpa [Lib.encodeRune] using this
theorem enc_ne (p : Int) : Lib.encodeRune p ≠ [] := by
  intro h
  have h1 := (enc_len p).1
  rw [h] at h1
  simp at h1

theorem four_cases {p : Int} (h : scalarB p = true) : (0 ≤ p ∧ p ≤ 127) ∨ (128 ≤ p ∧ p ≤ 2047) ∨ ((2048 ≤ p ∧ p < 55296) ∨ (57343 < p ∧ p ≤ 65535)) ∨ (65536 ≤ p ∧ p ≤ 1114111) := by
  rw [scalarB_iff] at h; omega

/-- What is encoded is decoded. -/
theorem decL_enc {p : Int} (h : scalarB p = true) (t : List UInt8) : decL (Lib.encodeRune p ++ t) = (p.toNat, (Lib.encodeRune p).length) := by
  rcases four_cases h with ⟨h0, h1⟩ | ⟨h0, h1⟩ | h3 | ⟨h0, h1⟩
  · rw [enc_one h0 h1]
    simp only [decL, List.cons_append, List.nil_append, List.getD_cons_zero, toNat_u8 p h0 (by omega), List.length_cons, List.length_nil]
    unfold Lib.decodeN
    rw [if_pos (by omega)]
  · rw [enc_two h0 h1]
    simp only [decL, List.cons_append, List.nil_append, List.getD_cons_zero, List.getD_cons_succ, toNat_u8 (192 + p / 64) (by omega) (by omega), toNat_u8 (128 + p % 64) (by omega) (by omega), List.length_cons, List.length_nil]
    unfold Lib.decodeN
    rw [if_neg (by omega), if_pos (by omega), if_pos (by omega)]
    exact Prod.ext (by simp only; omega) rfl
  · rw [enc_three h3]
    simp only [decL, List.cons_append, List.nil_append, List.getD_cons_zero, List.getD_cons_succ, toNat_u8 (224 + p / 4096) (by omega) (by omega), toNat_u8 (128 + p / 64 % 64) (by omega) (by omega), toNat_u8 (128 + p % 64) (by omega) (by omega), List.length_cons, List.length_nil]
    unfold Lib.decodeN
    rw [if_neg (by omega), if_neg (by omega), if_pos (by omega), if_pos (by omega)]
    exact Prod.ext (by simp only; omega) rfl
  · rw [enc_four h0 h1]
    simp only [decL, List.cons_append, List.nil_append, List.getD_cons_zero, List.getD_cons_succ, toNat_u8 (240 + p / 262144) (by omega) (by omega), toNat_u8 (128 + p / 4096 % 64) (by omega) (by omega), toNat_u8 (128 + p / 64 % 64) (by omega) (by omega), toNat_u8 (128 + p % 64) (by omega) (by omega), List.length_cons, List.length_nil]
    unfold Lib.decodeN
    rw [if_neg (by omega), if_neg (by omega), if_neg (by omega), if_pos (by omega), if_pos (by omega)]
    exact Prod.ext (by simp only; omega) rfl

theorem not_err_enc {p : Int} (h : scalarB p = true) (t : List UInt8) : ¬ errD (decL (Lib.encodeRune p ++ t)) := by
  rw [decL_enc h]
  rintro ⟨h1, h2⟩
  have hp : p = 65533 := by
    rw [scalarB_iff] at h
    simp only at h1
    omega
  subst hp
  revert h2
  decide

theorem u8_eq {b : UInt8} {n : Int} (h : n = (b.toNat : Int)) : n.toNat.toUInt8 = b := by
  subst h
  simp [Nat.toUInt8]

/-- What is decoded without a fault is encoded as it was. -/
theorem decL_ok {l : List UInt8} (hl : l ≠ []) (he : ¬ errD (decL l)) : ∃ t, l = Lib.encodeRune ((decL l).1 : Int) ++ t ∧ scalarB ((decL l).1 : Int) = true ∧ (Lib.encodeRune ((decL l).1 : Int)).length = (decL l).2 := by
  match l, hl with
  | b0 :: r, _ =>
    have k0 := b0.toNat_lt
    revert he
    simp only [decL, List.getD_cons_zero, List.getD_cons_succ, List.length_cons]
    unfold Lib.decodeN
    by_cases c0 : b0.toNat < 128
    · rw [if_pos c0]
      intro _
      refine ⟨r, ?_, by rw [scalarB_iff]; simp only; omega, by rw [enc_one (by simp only; omega) (by simp only; omega)]; rfl⟩
      rw [enc_one (by simp only; omega) (by simp only; omega)]
      simp only [List.cons_append, List.nil_append, List.cons.injEq, and_true]
      exact (u8_eq rfl).symm
    rw [if_neg c0]
    have hlen : ∀ n, (n < r.length + 1) = (n ≤ r.length) := fun n => propext Nat.lt_succ_iff
    simp only [hlen]
    by_cases c1 : b0.toNat / 32 = 6 ∧ 1 ≤ r.length ∧ (r.getD 0 0).toNat / 64 = 2
    · rw [if_pos c1]
      obtain ⟨d0, d1, d2⟩ := c1
      match r, d1, d2 with
      | b1 :: r, _, d2 =>
        have k1 := b1.toNat_lt
        simp only [List.getD_cons_zero] at d2 ⊢
        split
        · rename_i e
          intro _
          have hr : (128 : Int) ≤ ((b0.toNat % 32 * 64 + b1.toNat % 64 : Nat) : Int) ∧ ((b0.toNat % 32 * 64 + b1.toNat % 64 : Nat) : Int) ≤ 2047 := by omega
          refine ⟨r, ?_, by rw [scalarB_iff]; simp only; omega, by rw [enc_two hr.1 hr.2]; rfl⟩
          rw [enc_two hr.1 hr.2]
          simp only [List.cons_append, List.nil_append, List.cons.injEq, and_true]
          exact ⟨(u8_eq (by omega)).symm, (u8_eq (by omega)).symm⟩
        · intro he; exact absurd ⟨rfl, Nat.le_refl 1⟩ he
    rw [if_neg c1]
    by_cases c2 : b0.toNat / 16 = 14 ∧ (1 ≤ r.length ∧ (r.getD 0 0).toNat / 64 = 2) ∧ (2 ≤ r.length ∧ (r.getD 1 0).toNat / 64 = 2)
    · rw [if_pos c2]
      obtain ⟨d0, ⟨_, d2⟩, d3, d4⟩ := c2
      match r, d3, d2, d4 with
      | b1 :: b2 :: r, _, d2, d4 =>
        have k1 := b1.toNat_lt
        have k2 := b2.toNat_lt
        simp only [List.getD_cons_zero, List.getD_cons_succ] at d2 d4 ⊢
        split
        · rename_i e
          intro _
          have hr : (2048 ≤ ((b0.toNat % 16 * 4096 + b1.toNat % 64 * 64 + b2.toNat % 64 : Nat) : Int) ∧ ((b0.toNat % 16 * 4096 + b1.toNat % 64 * 64 + b2.toNat % 64 : Nat) : Int) < 55296) ∨ (57343 < ((b0.toNat % 16 * 4096 + b1.toNat % 64 * 64 + b2.toNat % 64 : Nat) : Int) ∧ ((b0.toNat % 16 * 4096 + b1.toNat % 64 * 64 + b2.toNat % 64 : Nat) : Int) ≤ 65535) := by omega
          refine ⟨r, ?_, by rw [scalarB_iff]; simp only; omega, by rw [enc_three hr]; rfl⟩
          rw [enc_three hr]
          simp only [List.cons_append, List.nil_append, List.cons.injEq, and_true]
          exact ⟨(u8_eq (by omega)).symm, (u8_eq (by omega)).symm, (u8_eq (by omega)).symm⟩
        · intro he; exact absurd ⟨rfl, Nat.le_refl 1⟩ he
    rw [if_neg c2]
    by_cases c3 : b0.toNat / 8 = 30 ∧ (1 ≤ r.length ∧ (r.getD 0 0).toNat / 64 = 2) ∧ (2 ≤ r.length ∧ (r.getD 1 0).toNat / 64 = 2) ∧ (3 ≤ r.length ∧ (r.getD 2 0).toNat / 64 = 2)
    · rw [if_pos c3]
      obtain ⟨d0, ⟨_, d2⟩, ⟨_, d4⟩, d5, d6⟩ := c3
      match r, d5, d2, d4, d6 with
      | b1 :: b2 :: b3 :: r, _, d2, d4, d6 =>
        have k1 := b1.toNat_lt
        have k2 := b2.toNat_lt
        have k3 := b3.toNat_lt
        simp only [List.getD_cons_zero, List.getD_cons_succ] at d2 d4 d6 ⊢
        split
        · rename_i e
          intro _
          have hr : (65536 : Int) ≤ ((b0.toNat % 8 * 262144 + b1.toNat % 64 * 4096 + b2.toNat % 64 * 64 + b3.toNat % 64 : Nat) : Int) ∧ ((b0.toNat % 8 * 262144 + b1.toNat % 64 * 4096 + b2.toNat % 64 * 64 + b3.toNat % 64 : Nat) : Int) ≤ 1114111 := by omega
          refine ⟨r, ?_, by rw [scalarB_iff]; simp only; omega, by rw [enc_four hr.1 hr.2]; rfl⟩
          rw [enc_four hr.1 hr.2]
          simp only [List.cons_append, List.nil_append, List.cons.injEq, and_true]
          exact ⟨(u8_eq (by omega)).symm, (u8_eq (by omega)).symm, (u8_eq (by omega)).symm, (u8_eq (by omega)).symm⟩
        · intro he; exact absurd ⟨rfl, Nat.le_refl 1⟩ he
    rw [if_neg c3]
    intro he; exact absurd ⟨rfl, Nat.le_refl 1⟩ he

/-- The bytes s are just the signs ps. -/
def Good (s : ByteArray) (ps : List Int) : Prop := s.data.toList = textL ps ∧ ∀ p ∈ ps, scalarB p = true
/-- Behind n bytes that are signs there stands none. -/
def BadAt (s : ByteArray) (n : Nat) : Prop := ∃ ps r, s.data.toList = textL ps ++ r ∧ (∀ p ∈ ps, scalarB p = true) ∧ n = (textL ps).length ∧ r ≠ [] ∧ errD (decL r)

theorem split_text : ∀ n (l : List UInt8), l.length ≤ n → ∃ ps r, l = textL ps ++ r ∧ (∀ p ∈ ps, scalarB p = true) ∧ (r = [] ∨ errD (decL r))
  | 0, l, h => ⟨[], [], by simpa [textL_nil] using h, by simp, .inl rfl⟩
  | n + 1, l, h => by
    by_cases h0 : l = []
    · exact ⟨[], [], by simpa [textL_nil] using h0, by simp, .inl rfl⟩
    by_cases he : errD (decL l)
    · exact ⟨[], l, by simp [textL_nil], by simp, .inr he⟩
    obtain ⟨t, ht, hs, _⟩ := decL_ok h0 he
    have hlt : t.length ≤ n := by
      have h1 := congrArg List.length ht
      rw [List.length_append] at h1
      have := (enc_len ((decL l).1 : Int)).1
      omega
    obtain ⟨ps, r, h1, h2, h3⟩ := split_text n t hlt
    refine ⟨((decL l).1 : Int) :: ps, r, ?_, ?_, h3⟩
    · rw [textL_cons, List.append_assoc, ← h1]; exact ht
    · intro p hp
      rcases List.mem_cons.1 hp with rfl | hp
      · exact hs
      · exact h2 p hp

theorem good_or_bad (s : ByteArray) : (∃ ps, Good s ps) ∨ ∃ n, BadAt s n := by
  obtain ⟨ps, r, h1, h2, h3⟩ := split_text _ s.data.toList (Nat.le_refl _)
  rcases h3 with rfl | h3
  · exact .inl ⟨ps, by simpa using h1, h2⟩
  · by_cases hr : r = []
    · subst hr; exact .inl ⟨ps, by simpa using h1, h2⟩
    · exact .inr ⟨_, ps, r, h1, h2, rfl, hr, h3⟩

theorem text_unique : ∀ (ps qs : List Int) (r t : List UInt8), textL ps ++ r = textL qs ++ t → (∀ p ∈ ps, scalarB p = true) → (∀ p ∈ qs, scalarB p = true) → (r = [] ∨ errD (decL r)) → (t = [] ∨ errD (decL t)) → ps = qs ∧ r = t
  | [], [], r, t, h, _, _, _, _ => ⟨rfl, by simpa [textL_nil] using h⟩
  | [], q :: qs, r, t, h, _, hq, hr, _ => by
    exfalso
    rw [textL_nil, List.nil_append, textL_cons, List.append_assoc] at h
    subst h
    rcases hr with hr | hr
    · exact enc_ne q (List.append_eq_nil_iff.1 hr).1
    · exact not_err_enc (hq q (List.mem_cons_self ..)) _ hr
  | p :: ps, [], r, t, h, hp, _, _, ht => by
    exfalso
    rw [textL_nil, List.nil_append, textL_cons, List.append_assoc] at h
    subst h
    rcases ht with hr | hr
    · exact enc_ne p (List.append_eq_nil_iff.1 hr).1
    · exact not_err_enc (hp p (List.mem_cons_self ..)) _ hr
  | p :: ps, q :: qs, r, t, h, hp, hq, hr, ht => by
    have sp := hp p (List.mem_cons_self ..)
    have sq := hq q (List.mem_cons_self ..)
    rw [textL_cons, List.append_assoc, textL_cons, List.append_assoc] at h
    have hd := congrArg decL h
    rw [decL_enc sp, decL_enc sq] at hd
    have hpq : p = q := by
      have h1 := (Prod.ext_iff.1 hd).1
      simp only at h1
      rw [scalarB_iff] at sp sq
      omega
    subst hpq
    obtain ⟨h1, h2⟩ := text_unique ps qs r t (List.append_cancel_left h) (fun x hx => hp x (List.mem_cons_of_mem _ hx)) (fun x hx => hq x (List.mem_cons_of_mem _ hx)) hr ht
    exact ⟨by rw [h1], h2⟩

theorem Good.unique {s : ByteArray} {ps qs : List Int} (h : Good s ps) (k : Good s qs) : ps = qs :=
  (text_unique ps qs [] [] (by rw [List.append_nil, List.append_nil, ← h.1, k.1]) h.2 k.2 (.inl rfl) (.inl rfl)).1
theorem Good.not_bad {s : ByteArray} {ps : List Int} {n : Nat} (h : Good s ps) (k : BadAt s n) : False := by
  obtain ⟨qs, r, h1, h2, _, h4, h5⟩ := k
  exact h4 (text_unique ps qs [] r (by rw [List.append_nil, ← h.1, h1]) h.2 h2 (.inl rfl) (.inr h5)).2.symm
theorem BadAt.unique {s : ByteArray} {n m : Nat} (h : BadAt s n) (k : BadAt s m) : n = m := by
  obtain ⟨ps, r, h1, h2, h3, h4, h5⟩ := h
  obtain ⟨qs, t, k1, k2, k3, k4, k5⟩ := k
  have := (text_unique ps qs r t (by rw [← h1, k1]) h2 k2 (.inr h5) (.inr k5)).1
  subst this
  rw [h3, k3]

theorem good_text {ps : List Int} (h : ∀ p ∈ ps, scalarB p = true) : Good ⟨(textL ps).toArray⟩ ps := ⟨by simp, h⟩
theorem Good.eq {s : ByteArray} {ps : List Int} (h : Good s ps) : s = ⟨(textL ps).toArray⟩ := by
  rw [← h.1]
theorem Good.size {s : ByteArray} {ps : List Int} (h : Good s ps) : s.size = (textL ps).length := by
  rw [← h.1]; simp
theorem len_textL (ps : List Int) : ps.length ≤ (textL ps).length ∧ (textL ps).length ≤ 4 * ps.length := by
  induction ps with
  | nil => simp [textL_nil]
  | cons p ps ih =>
    have := enc_len p
    rw [textL_cons, List.length_append, List.length_cons]
    omega
theorem Good.len {s : ByteArray} {ps : List Int} (h : Good s ps) : ps.length ≤ s.size := by
  rw [h.size]; exact (len_textL ps).1
theorem BadAt.lt {s : ByteArray} {n : Nat} (h : BadAt s n) : n < s.size := by
  obtain ⟨ps, r, h1, _, h3, h4, _⟩ := h
  have : s.size = (textL ps).length + r.length := by rw [← List.length_append, ← h1]; simp
  have : 0 < r.length := List.length_pos_iff.2 h4
  omega
end Go.Proofs.YtpnjandlpbjddabDoor

/- How far a loop over a text's signs has come. Plain lists. -/
namespace Go.Proofs.YtpnjandlpbjddabDoor
open Go Go.RowKit

/-- The bytes s begin with the signs ps; behind them stands r. -/
def Pre (s : ByteArray) (ps : List Int) (r : List UInt8) : Prop := s.data.toList = textL ps ++ r ∧ ∀ p ∈ ps, scalarB p = true
/-- k of the signs ps are behind us: i bytes. -/
def Run (ps : List Int) (k i : Nat) : Prop := k ≤ ps.length ∧ i = (textL (ps.take k)).length
theorem Good.pre {s : ByteArray} {ps : List Int} (h : Good s ps) : Pre s ps [] := ⟨by simpa using h.1, h.2⟩
theorem BadAt.pre {s : ByteArray} {n : Nat} (h : BadAt s n) : ∃ ps r, Pre s ps r ∧ n = (textL ps).length ∧ r ≠ [] ∧ errD (decL r) := by
  obtain ⟨ps, r, h1, h2, h3, h4, h5⟩ := h
  exact ⟨ps, r, ⟨h1, h2⟩, h3, h4, h5⟩
theorem Run.zero (ps : List Int) : Run ps 0 0 := ⟨Nat.zero_le _, rfl⟩
theorem getD_mem {ps : List Int} {k : Nat} (h : k < ps.length) : ps.getD k 0 ∈ ps := by
  rw [List.getD_eq_getElem?_getD, List.getElem?_eq_getElem h]
  exact List.getElem_mem h
theorem drop_getD {ps : List Int} {k : Nat} (h : k < ps.length) : ps.drop k = ps.getD k 0 :: ps.drop (k + 1) := by
  rw [List.drop_eq_getElem_cons h, List.getD_eq_getElem?_getD, List.getElem?_eq_getElem h]; rfl
theorem take_getD {ps : List Int} {k : Nat} (h : k < ps.length) : ps.take (k + 1) = ps.take k ++ [ps.getD k 0] := by
  rw [List.take_succ_eq_append_getElem h, List.getD_eq_getElem?_getD, List.getElem?_eq_getElem h]; rfl
theorem Run.drop {s : ByteArray} {ps : List Int} {r : List UInt8} {k i : Nat} (hp : Pre s ps r) (h : Run ps k i) : s.data.toList.drop i = textL (ps.drop k) ++ r := by
  have e : textL ps = textL (ps.take k) ++ textL (ps.drop k) := by rw [← textL_append, List.take_append_drop]
  rw [hp.1, e, List.append_assoc, h.2, List.drop_left]
theorem Run.next {ps : List Int} {k i : Nat} (h : Run ps k i) (hk : k < ps.length) : Run ps (k + 1) (i + (Lib.encodeRune (ps.getD k 0)).length) :=
  ⟨hk, by rw [take_getD hk, textL_append, List.length_append, ← h.2, textL_cons, textL_nil, List.append_nil]⟩
theorem Run.head {s : ByteArray} {ps : List Int} {r : List UInt8} {k i : Nat} (hp : Pre s ps r) (h : Run ps k i) (hk : k < ps.length) :
    ∃ t, s.data.toList.drop i = Lib.encodeRune (ps.getD k 0) ++ t ∧ scalarB (ps.getD k 0) = true ∧ i < s.size ∧ i + (Lib.encodeRune (ps.getD k 0)).length ≤ s.size := by
  have hd := h.drop hp
  rw [drop_getD hk, textL_cons, List.append_assoc] at hd
  have hl := congrArg List.length hd
  rw [List.length_drop, List.length_append] at hl
  have h1 := (enc_len (ps.getD k 0)).1
  have hs : s.data.toList.length = s.size := by simp
  rw [hs] at hl
  exact ⟨_, hd, hp.2 _ (getD_mem hk), by omega, by omega⟩
theorem Run.end_ {s : ByteArray} {ps : List Int} {r : List UInt8} {i : Nat} (hp : Pre s ps r) (h : Run ps ps.length i) : i = (textL ps).length ∧ s.data.toList.drop i = r ∧ i + r.length = s.size := by
  have hd := h.drop hp
  rw [List.drop_length, textL_nil, List.nil_append] at hd
  have h2 := h.2
  rw [List.take_length] at h2
  refine ⟨h2, hd, ?_⟩
  have hl := congrArg List.length hp.1
  rw [List.length_append] at hl
  have hs : s.data.toList.length = s.size := by simp
  omega
theorem Run.le {s : ByteArray} {ps : List Int} {r : List UInt8} {k i : Nat} (hp : Pre s ps r) (h : Run ps k i) : k ≤ i ∧ i ≤ s.size ∧ k ≤ ps.length := by
  have h1 := (len_textL (ps.take k)).1
  rw [List.length_take, ← h.2] at h1
  have h0 := h.1
  have hl := congrArg List.length hp.1
  have e : textL ps = textL (ps.take k) ++ textL (ps.drop k) := by rw [← textL_append, List.take_append_drop]
  rw [e, List.length_append, List.length_append, ← h.2] at hl
  have hs : s.data.toList.length = s.size := by simp
  omega
theorem Run.uniq {ps : List Int} {k i j : Nat} (h : Run ps k i) (h' : Run ps k j) : i = j := by rw [h.2, h'.2]

theorem extract_all (s : ByteArray) (i : Nat) : (s.extract i s.size).data.toList = s.data.toList.drop i := Lib.extract_to_end s i
theorem dec_ext (s : ByteArray) (i : Nat) (h : i < s.size) : Lib.decodeGo (s.extract i s.size) = decL (s.data.toList.drop i) := by
  have e := extract_all s i
  have hz : (s.extract i s.size).size = s.size - i := by
    have h2 := congrArg List.length e
    have h3 : (s.extract i s.size).data.toList.length = (s.extract i s.size).size := by simp
    have h4 : s.data.toList.length = s.size := by simp
    rw [h3, List.length_drop, h4] at h2
    exact h2
  unfold Lib.decodeGo
  rw [if_neg (by omega), decode_drop, e, List.drop_zero]

/-- The sign p, of n bytes, stands at place i of s: the k-th of ps. -/
def Step (s : ByteArray) (ps : List Int) (k i : Nat) (p : Int) (n : Nat) : Prop :=
  (∃ t, s.data.toList.drop i = Lib.encodeRune p ++ t) ∧ n = (Lib.encodeRune p).length ∧ p = ps.getD k 0 ∧ scalarB p = true
theorem Run.step {s : ByteArray} {ps : List Int} {r : List UInt8} {k i : Nat} (hp : Pre s ps r) (h : Run ps k i) (hk : k < ps.length) :
    ∃ (p : Int) (n : Nat), Step s ps k i p n ∧ Run ps (k + 1) (i + n) ∧ 1 ≤ n ∧ n ≤ 4 ∧ i + n ≤ s.size ∧ 0 ≤ p ∧ p ≤ 1114111 ∧ ((p == 65533) = false ∨ (p = 65533 ∧ 2 ≤ n)) := by
  obtain ⟨t, hd, hs, hi, hi2⟩ := h.head hp hk
  have h4 := scalarB_iff.1 hs
  have h5 := enc_len (ps.getD k 0)
  refine ⟨_, _, ⟨⟨t, hd⟩, rfl, rfl, hs⟩, h.next hk, h5.1, h5.2, hi2, h4.1, h4.2.1, ?_⟩
  by_cases h6 : ps.getD k 0 = 65533
  · right
    rw [h6]
    exact ⟨rfl, by decide⟩
  · left
    simpa using h6
theorem Step.snoc {s : ByteArray} {ps : List Int} {k i n : Nat} {p : Int} (h : Step s ps k i p n) (hk : k < ps.length) : ps.take (k + 1) = ps.take k ++ [p] := by
  rw [take_getD hk, h.2.2.1]
end Go.Proofs.YtpnjandlpbjddabDoor

/- Contracts: package point's scan, and what stands on it (Check, Count); Fault.Bad. -/
namespace Go.Proofs.YtpnjandlpbjddabDoor
open Go Go.RowKit

def Tabs (w : World) : Prop := Lib.Utf8Tabs 1 2 w

theorem Bad_any (e a : Int) (w : World) :
    Calls Tryd.prog 9 #[.agg #[.int .i64 e, .int .i64 a]] w fun x w' => x = .returned (.bool (e != 0)) ∧ Below w.heap.size w w' := by
  go_enter Tryd.func9, Tryd.ntmps9
  go_wp2
  go_ret
  exact ⟨rfl, (Below.refl _ _).alloc (Nat.le_refl _) _⟩

theorem Dec_good (s : ByteArray) (i : Nat) (p : Int) (t : List UInt8) (hd : s.data.toList.drop i = Lib.encodeRune p ++ t) (hp : scalarB p = true) (w : World) (hT : Tabs w) :
    Calls Tryd.prog 62 #[.string (s.extract i s.size)] w fun e w' => e = .returned (.tuple #[.int .i32 p, .int .i64 (Lib.encodeRune p).length]) ∧ Below w.heap.size w w' := by
  have hi : i < s.size := by
    have h1 := congrArg List.length hd
    have h2 := (enc_len p).1
    have h4 : s.data.toList.length = s.size := by simp
    rw [List.length_drop, List.length_append, h4] at h1
    omega
  have h := Tryd.utf8_DecodeRuneInString (s.extract i s.size) w hT
  rw [dec_ext s i hi, hd, decL_enc hp] at h
  have e : ((p.toNat : Nat) : Int) = p := by have := scalarB_iff.1 hp; omega
  simp only [e] at h
  exact h
theorem Dec_bad (s : ByteArray) (i : Nat) (hi : i < s.size) (hd : errD (decL (s.data.toList.drop i))) (w : World) (hT : Tabs w) :
    Calls Tryd.prog 62 #[.string (s.extract i s.size)] w fun e w' => (∃ n : Nat, n ≤ 1 ∧ e = .returned (.tuple #[.int .i32 65533, .int .i64 n])) ∧ Below w.heap.size w w' := by
  have h := Tryd.utf8_DecodeRuneInString (s.extract i s.size) w hT
  rw [dec_ext s i hi] at h
  refine h.mono fun e w' ⟨he, hb⟩ => ⟨⟨_, hd.2, ?_⟩, hb⟩
  rw [he, hd.1]; rfl

theorem Tabs_below {w w' : World} (h : Tabs w) {B : Nat} (hb : Below B w w') (hB : w.heap.size ≤ B) : Tabs w' := Utf8Tabs_below h (hb.mono hB)

def ScanRel (ps : List Int) (w0 : World) (n at_ : Value) (wr : World) : Prop :=
  ∃ k i : Nat, n = .int .i64 k ∧ at_ = .int .i64 i ∧ Run ps k i ∧ Below (w0.heap.size + 1) (w0.alloc (.cells #[.int .i64 0, .int .i64 0] 33)) wr


theorem Dec_step {s : ByteArray} {ps : List Int} {k i n : Nat} {p : Int} (h : Step s ps k i p n) (w : World) (hT : Tabs w) :
    Calls Tryd.prog 62 #[.string (s.extract i s.size)] w fun e w' => e = .returned (.tuple #[.int .i32 p, .int .i64 n]) ∧ Below w.heap.size w w' := by
  obtain ⟨⟨t, ht⟩, hn, _, hs⟩ := h
  subst hn
  exact Dec_good s i p t ht hs w hT

theorem scan_pre (s : ByteArray) (ps : List Int) (r : List UInt8) (hp : Pre s ps r) (hr : r = [] ∨ errD (decL r)) (hs : s.size ≤ 140737488355328) (w : World) (hT : Tabs w) :
    Calls Tryd.prog 43 #[.string s] w fun e w' =>
      ((r = [] ∧ e = .returned (.tuple #[.int .i64 ps.length, .agg #[.int .i64 0, .int .i64 0]])) ∨ (r ≠ [] ∧ e = .returned (.tuple #[.int .i64 0, .agg #[.int .i64 2, .int .i64 (textL ps).length]]))) ∧ Below w.heap.size w w' := by
  go_enter Tryd.func43, Tryd.ntmps43
  go_wp2_with fail
  go_loopw [4, 5] (fun n i wr => ScanRel ps w n i wr) (fun _ i _ => s.size - (intOf i).toNat)
  case atStart => exact ⟨0, 0, rfl, rfl, Run.zero _, Below.refl _ _⟩
  case round =>
    obtain ⟨k, i, rfl, rfl, hrun, hb⟩ := hrel
    have hle := hrun.le hp
    obtain ⟨hc0, hc1, hf0, hf1, hsz⟩ := box2 hb
    have hTr : Tabs wr := Tabs_below (Tabs_below hT (Below.alloc (Below.refl (w.heap.size) w) (Nat.le_refl _) _) (Nat.le_refl _)) hb (by simp)
    by_cases hk : k < ps.length
    · obtain ⟨p, n, hst, hrun', hn1, hn4, hin, _, _, hq⟩ := hrun.step hp hk
      rcases hq with hq | ⟨rfl, hq⟩
      all_goals
        go_wp2_with (go_at_call 62; refine (Dec_step hst _ hTr).mono ?_; rintro e w' ⟨rfl, hb'⟩)
        go_roundw
        case rel => exact ⟨k + 1, i + n, by go_num, by go_num, hrun', hb.trans (hb'.mono (by omega))⟩
        case measure => simp [intOf]; omega
    · have hk2 : k = ps.length := by omega
      subst hk2
      obtain ⟨hi, hdr, hir⟩ := hrun.end_ hp
      by_cases hr0 : r = []
      · have hge : ¬ i < s.size := by rw [hr0] at hir; simp at hir; omega
        clear hdr hir hi
        go_wp2_with fail
        refine bodyPost_ret (v := .tuple #[.int .i64 ps.length, .agg #[.int .i64 0, .int .i64 0]]) (by simp [results, Tryd.results43, go_sem, hc0, hc1]) rfl ⟨.inl ⟨hr0, rfl⟩, ?_⟩
        exact (((((Below.refl _ w).alloc (Nat.le_refl _) _).trans (hb.mono (by omega))).setCell (Nat.le_refl _) _).setCell (Nat.le_refl _) _)
      · have hlt : i < s.size := by have := List.length_pos_iff.2 hr0; omega
        have he : errD (decL (s.data.toList.drop i)) := by rw [hdr]; exact hr.resolve_left hr0
        have Hi := Lib.hid hi
        clear hdr hir hi
        go_wp2_with (go_at_call 62; refine (Dec_bad s i hlt he _ hTr).mono ?_; rintro e w' ⟨⟨n, hn, rfl⟩, hb'⟩; have hb2 := hb'.mono (B' := w.heap.size + 1) (by omega); have hb3 := hb.trans hb2; obtain ⟨hc0', hc1', hf0', hf1', hsz'⟩ := box2 hb3)
        rw [Hi.out]
        refine bodyPost_ret (v := .tuple #[.int .i64 0, .agg #[.int .i64 2, .int .i64 (textL ps).length]]) (by simp [results, Tryd.results43, go_sem, hc0', hc1']) rfl ⟨.inr ⟨hr0, rfl⟩, ?_⟩
        exact (((((Below.refl _ w).alloc (Nat.le_refl _) _).trans (hb3.mono (by omega))).setCell (Nat.le_refl _) _).setCell (Nat.le_refl _) _)

theorem scan_good (s : ByteArray) (ps : List Int) (hg : Good s ps) (hs : s.size ≤ 140737488355328) (w : World) (hT : Tabs w) :
    Calls Tryd.prog 43 #[.string s] w fun e w' => e = .returned (.tuple #[.int .i64 ps.length, .agg #[.int .i64 0, .int .i64 0]]) ∧ Below w.heap.size w w' :=
  (scan_pre s ps [] hg.pre (.inl rfl) hs w hT).mono fun _ _ ⟨h, hb⟩ => by
    rcases h with ⟨_, h⟩ | ⟨h, _⟩
    · exact ⟨h, hb⟩
    · exact absurd rfl h
theorem scan_bad (s : ByteArray) (n : Nat) (hg : BadAt s n) (hs : s.size ≤ 140737488355328) (w : World) (hT : Tabs w) :
    Calls Tryd.prog 43 #[.string s] w fun e w' => e = .returned (.tuple #[.int .i64 0, .agg #[.int .i64 2, .int .i64 n]]) ∧ Below w.heap.size w w' := by
  obtain ⟨ps, r, hp, rfl, hr, he⟩ := hg.pre
  refine (scan_pre s ps r hp (.inr he) hs w hT).mono fun _ _ ⟨h, hb⟩ => ?_
  rcases h with ⟨h, _⟩ | ⟨_, h⟩
  · exact absurd h hr
  · exact ⟨h, hb⟩


theorem tabs_alloc {w : World} (h : Tabs w) (o : Obj) : Tabs (w.alloc o) := Tabs_below h ((Below.refl _ _).alloc (Nat.le_refl _) _) (Nat.le_refl _)

theorem Check_good (s : ByteArray) (ps : List Int) (hg : Good s ps) (hs : s.size ≤ 140737488355328) (w : World) (hT : Tabs w) :
    Calls Tryd.prog 23 #[.string s] w fun e w' => e = .returned (.agg #[.int .i64 0, .int .i64 0]) ∧ Below w.heap.size w w' := by
  go_enter Tryd.func23, Tryd.ntmps23
  go_wp2_with (go_at_call 43; refine (scan_good s ps hg hs _ (by first | exact hT | exact tabs_alloc hT _)).mono ?_; rintro e w1 ⟨rfl, hb1⟩; have hz0 := hb1.size; try (obtain ⟨hc0, hc1, hf0, hf1, hz1⟩ := box2 (hb1.mono (by simp))))
  refine bodyPost_ret (v := .agg #[.int .i64 0, .int .i64 0]) (by simp [results, Tryd.results23, go_sem, hc0, hc1, hz1]) rfl ⟨rfl, ?_⟩
  (repeat (first | exact below_a1 hb1 | exact hb1 | refine Below.alloc ?_ (by first | exact Nat.le_refl _ | exact hz0 | (simp; done) | (simp; omega)) _ | refine Below.setCell ?_ (by first | exact Nat.le_refl _ | exact hz0 | (simp; done) | (simp; omega)) _))

theorem Check_bad (s : ByteArray) (n : Nat) (hg : BadAt s n) (hs : s.size ≤ 140737488355328) (w : World) (hT : Tabs w) :
    Calls Tryd.prog 23 #[.string s] w fun e w' => e = .returned (.agg #[.int .i64 2, .int .i64 n]) ∧ Below w.heap.size w w' := by
  go_enter Tryd.func23, Tryd.ntmps23
  go_wp2_with (go_at_call 43; refine (scan_bad s n hg hs _ (by first | exact hT | exact tabs_alloc hT _)).mono ?_; rintro e w1 ⟨rfl, hb1⟩; have hz0 := hb1.size; try (obtain ⟨hc0, hc1, hf0, hf1, hz1⟩ := box2 (hb1.mono (by simp))))
  refine bodyPost_ret (v := .agg #[.int .i64 2, .int .i64 n]) (by simp [results, Tryd.results23, go_sem, hc0, hc1, hz1]) rfl ⟨rfl, ?_⟩
  (repeat (first | exact below_a1 hb1 | exact hb1 | refine Below.alloc ?_ (by first | exact Nat.le_refl _ | exact hz0 | (simp; done) | (simp; omega)) _ | refine Below.setCell ?_ (by first | exact Nat.le_refl _ | exact hz0 | (simp; done) | (simp; omega)) _))

theorem Count_good (s : ByteArray) (ps : List Int) (hg : Good s ps) (hs : s.size ≤ 140737488355328) (w : World) (hT : Tabs w) :
    Calls Tryd.prog 24 #[.string s] w fun e w' => e = .returned (.int .i64 ps.length) ∧ Below w.heap.size w w' := by
  go_enter Tryd.func24, Tryd.ntmps24
  go_wp2_with (go_at_call 43; refine (scan_good s ps hg hs _ (by first | exact hT | exact tabs_alloc hT _)).mono ?_; rintro e w1 ⟨rfl, hb1⟩; have hz0 := hb1.size; try (obtain ⟨hc0, hc1, hf0, hf1, hz1⟩ := box2 (hb1.mono (by simp))))
  go_ret
  exact ⟨rfl, by (repeat (first | exact below_a1 hb1 | exact hb1 | refine Below.alloc ?_ (by first | exact Nat.le_refl _ | exact hz0 | (simp; done) | (simp; omega)) _ | refine Below.setCell ?_ (by first | exact Nat.le_refl _ | exact hz0 | (simp; done) | (simp; omega)) _))⟩

theorem Count_bad (s : ByteArray) (n : Nat) (hg : BadAt s n) (hs : s.size ≤ 140737488355328) (w : World) (hT : Tabs w) :
    Calls Tryd.prog 24 #[.string s] w fun e w' => e = .returned (.int .i64 0) ∧ Below w.heap.size w w' := by
  go_enter Tryd.func24, Tryd.ntmps24
  go_wp2_with (go_at_call 43; refine (scan_bad s n hg hs _ (by first | exact hT | exact tabs_alloc hT _)).mono ?_; rintro e w1 ⟨rfl, hb1⟩; have hz0 := hb1.size; try (obtain ⟨hc0, hc1, hf0, hf1, hz1⟩ := box2 (hb1.mono (by simp))))
  go_ret
  exact ⟨rfl, by (repeat (first | exact below_a1 hb1 | exact hb1 | refine Below.alloc ?_ (by first | exact Nat.le_refl _ | exact hz0 | (simp; done) | (simp; omega)) _ | refine Below.setCell ?_ (by first | exact Nat.le_refl _ | exact hz0 | (simp; done) | (simp; omega)) _))⟩
end Go.Proofs.YtpnjandlpbjddabDoor

/- What the cards of this seat share: the tables as the row lists them, and the end of a law that returns true; no condition. -/
set_option maxRecDepth 100000
namespace Go.Proofs.YtpnjandlpbjddabDoor
open Go Go.Proofs Go.ChangeShapes Go.WideShapes Go.ChangeAt Go.RowKit

theorem own : ownKnob Tryd.prog.godebug = none := by kernel_rfl
theorem laidOut : laidOutB Tryd.prog = true := by kernel_rfl

section
variable {H : Type} {enc : TypeId × Value → H} {P : Program}
theorem below_trodAll (hl : laidOutB P = true) {W W' : World} (hb : Below W.heap.size W W') {sp : Nat → Bool} :
    ∀ {ts : List TypeId} {vs : List Value} {ds : List (DataW H)} {ps : List MemPlace}, (ts.all fun t => P.readableRec t && decide (t < P.types.size)) = true →
      (∀ x ∈ ps, x.block < W.heap.size) → (∀ x ∈ ps, sp x.block = true) → DataW.TrodAll enc P W 0 (fun _ => true) true ts vs ds ps → DataW.TrodAll enc P W' 0 sp true ts vs ds ps
  | [], _, _, _, _, _, _, h => by
    obtain ⟨rfl, rfl, rfl⟩ := trodAll_nil h
    exact trodAll_mk0
  | t :: ts, _, _, _, hr, hlt, hsp, h => by
    obtain ⟨v, vs, d, ds, p, q, rfl, rfl, rfl, hd, hrest⟩ := trodAll_cons h
    simp only [List.all_cons, Bool.and_eq_true, decide_eq_true_eq] at hr
    exact trodAll_cons_mk (WideElems.Trod_stays hl hr.1.1 hr.1.2 hd (fun x hx => hb.same (hlt x (by simp [hx]))) (fun x hx => hsp x (by simp [hx])))
      (below_trodAll hl hb hr.2 (fun x hx => hlt x (by simp [hx])) (fun x hx => hsp x (by simp [hx])) hrest)

theorem post_true {f : Func} {s : ChangeSpec} {apart fresh handsOn again : Bool} {W W' : World} {args : Array Value} {ds : List (DataW H)} {before : List MemPlace}
    (hl : laidOutB P = true) (hv : s.vars = []) (hr : (f.params.toList.all fun t => P.readableRec t && decide (t < P.types.size)) = true)
    (hres : f.resultTypes = #[4]) (h4 : P.underlying 4 = some .bool)
    (hW : DataW.Whole enc P f.params.toList s.vars apart W args.toList ds [] before)
    (hfn : s.fn H (ds ++ []) = { results := [.lit (.bool true)], args := ds }) (hb : Below W.heap.size W W') :
    s.post enc P f apart fresh handsOn again W args (.bool true) W' := by
  have hW' := hW
  have hlt : ∀ p ∈ before, p.block < W.heap.size := fun p hp => hW.lt p hp
  obtain ⟨p, q, hA, hV, rfl, hz, hn⟩ := hW
  rw [hv] at hV
  obtain ⟨_, rfl⟩ := trodVars_none hV
  simp only [List.append_nil] at hlt hz hn hW'
  have harg : ∀ sp : Nat → Bool, (∀ x ∈ p, sp x.block = true) → DataW.TrodAll enc P W' 0 sp true f.params.toList args.toList (s.fn H (ds ++ [])).args p := fun sp h => by
    rw [hfn]; exact below_trodAll hl hb hr hlt h hA
  have hrs : ∀ (b : Nat) (sp : Nat → Bool) (hd : Bool), DataW.TrodAll enc P W' b sp hd f.resultTypes.toList ((Value.bool true).resultList f.resultTypes.size) (s.fn H (ds ++ [])).results [] := fun b sp hd => by
    rw [hfn, hres]; exact trodAll_mk1 (shut_bool h4 _)
  have hvars : ∀ sp : Nat → Bool, DataW.TrodVars enc P W' sp s.vars (s.fn H (ds ++ [])).vars [] := fun sp => by
    rw [hfn, hv]; rfl
  have hold : ∀ x ∈ p, (fun b => decide (b < W.heap.size)) x.block = true := fun x hx => by simpa using hlt x hx
  refine ⟨ds, [], p, [], p, [], hW', hrs _ _ _, harg _ hold, hvars _, World.keptBut_mono (fun x hx => ⟨hx, Or.inr (by simpa using hx)⟩) (hb.frame (· ∈ p)), fun _ => ?_⟩
  refine ⟨ok_one hres rfl (okWide_bool_mk h4 _), _, _, ([] ++ p) ++ [], ⟨[] ++ p, [], trodAll_append (harg _ (fun _ _ => rfl)) (hrs _ _ _), hvars _, rfl, ?_, ?_⟩, ?_⟩
  · intro b off hp
    have hin : MemPlace.cell b off ∈ p := by simpa using hp
    rw [hb.frozen (hlt _ hin)]
    exact hz b off hin
  · intro ha
    simpa using hn ha
  · intro x hx _
    simpa using hx
end

theorem first_eq : Rows.laid_unicode_utf8_first = Lib.firstData := by kernel_rfl
theorem accept_eq : (Rows.laid_unicode_utf8_acceptRanges : DataW Unit) = Lib.acceptData := by kernel_rfl
theorem tabs_of {l : List (String × DataW Unit)} {W : World} (h : laidMetH Tryd.prog l W) (hp : (l.all fun x => x.2.handleName?.isNone) = true)
    (h1 : ("unicode/utf8.first", Rows.laid_unicode_utf8_first) ∈ l) (h2 : ("unicode/utf8.acceptRanges", Rows.laid_unicode_utf8_acceptRanges) ∈ l) : Tabs W := by
  rw [MakeChecks.laidMetH_plain _ _ _ hp] at h
  rw [first_eq] at h1
  rw [accept_eq] at h2
  exact utf8Tabs_of_reads (ρ := Tryd.lays260_ren) { Tryd.lays260 with } ⟨by kernel_rfl, by kernel_rfl, by kernel_rfl, by kernel_rfl, by kernel_rfl, by kernel_rfl, by kernel_rfl⟩
    (Lib.laidMet.reads h h1) (Lib.laidMet.reads h h2)

theorem nums_of {w : World} {a : Addr} {k : IntKind} {zs : List Int} {n : Nat} (hn : n ≤ zs.length) (hb : ∀ i, i < zs.length → w.cell? (a.add i) = some (.int k (zs.getD i 0))) :
    Nums w w.heap.size k (some a) (zs.take n) := by
  refine ⟨by simp, fun h0 => ⟨a, rfl, ?_, fun j u hu => ?_⟩⟩
  · have hl : 0 < zs.length := by simp only [List.length_take] at h0; omega
    have h := hb 0 hl
    by_cases hlt : a.block < w.heap.size
    · exact hlt
    · rw [World.cell?] at h
      simp [Addr.add, Array.getElem?_eq_none (Nat.le_of_not_lt hlt)] at h
  · rw [List.getElem?_map, List.getElem?_take] at hu
    split at hu
    · rename_i hj
      rw [hb j (by omega)]
      rw [List.getElem?_eq_getElem (by omega), Option.map_some] at hu
      rw [← hu, List.getD, List.getElem?_eq_getElem (by omega)]
      rfl
    · simp at hu
end Go.Proofs.YtpnjandlpbjddabDoor

/- Lists of signs in base sixteen, four digits and a blank each: a sign's place by the first place of its digits. No program in sight; no condition. -/
set_option maxRecDepth 100000
namespace Go.Proofs.YtpnjandlpbjddabDoor
open Go

def hexD (n : Int) : UInt8 := if n < 10 then (48 + n).toNat.toUInt8 else (55 + n).toNat.toUInt8
def cellL (p : Int) : List UInt8 := [hexD (p / 4096), hexD (p / 256 % 16), hexD (p / 16 % 16), hexD (p % 16), 32]
def hexL (ps : List Int) : List UInt8 := ps.flatMap cellL
def SmallP (ps : List Int) : Prop := ∀ p ∈ ps, 0 ≤ p ∧ p ≤ 65535
def digitsL : List UInt8 := [48, 49, 50, 51, 52, 53, 54, 55, 56, 57, 65, 66, 67, 68, 69, 70]

theorem small16 {n : Int} (h0 : 0 ≤ n) (h1 : n < 16) : n = 0 ∨ n = 1 ∨ n = 2 ∨ n = 3 ∨ n = 4 ∨ n = 5 ∨ n = 6 ∨ n = 7 ∨ n = 8 ∨ n = 9 ∨ n = 10 ∨ n = 11 ∨ n = 12 ∨ n = 13 ∨ n = 14 ∨ n = 15 := by omega
theorem hexD_index {n : Int} (h0 : 0 ≤ n) (h1 : n < 16) : Lib.indexByte digitsL (hexD n) = n := by
  rcases small16 h0 h1 with rfl | rfl | rfl | rfl | rfl | rfl | rfl | rfl | rfl | rfl | rfl | rfl | rfl | rfl | rfl | rfl <;> decide
theorem hexD_get {n : Int} (h0 : 0 ≤ n) (h1 : n < 16) : digitsL.getD n.toNat 0 = hexD n := by
  rcases small16 h0 h1 with rfl | rfl | rfl | rfl | rfl | rfl | rfl | rfl | rfl | rfl | rfl | rfl | rfl | rfl | rfl | rfl <;> decide
theorem hexD_blank {n : Int} (h0 : 0 ≤ n) (h1 : n < 16) : hexD n ≠ 32 := by
  rcases small16 h0 h1 with rfl | rfl | rfl | rfl | rfl | rfl | rfl | rfl | rfl | rfl | rfl | rfl | rfl | rfl | rfl | rfl <;> decide
theorem hexD_inj {n m : Int} (h0 : 0 ≤ n) (h1 : n < 16) (g0 : 0 ≤ m) (g1 : m < 16) (h : hexD n = hexD m) : n = m := by
  rw [← hexD_index h0 h1, h, hexD_index g0 g1]

theorem hexL_cons (p : Int) (ps : List Int) : hexL (p :: ps) = cellL p ++ hexL ps := rfl
theorem hexL_len (ps : List Int) : (hexL ps).length = 5 * ps.length := by
  induction ps with
  | nil => rfl
  | cons p ps ih => rw [hexL_cons, List.length_append, ih, List.length_cons]; simp [cellL]; omega
theorem hexL_at (ps : List Int) (k j : Nat) (hk : k < ps.length) (hj : j < 5) : (hexL ps)[5 * k + j]? = (cellL (ps.getD k 0))[j]? := by
  induction ps generalizing k with
  | nil => simp at hk
  | cons p ps ih =>
    rw [hexL_cons]
    cases k with
    | zero => rw [List.getElem?_append_left (by simp [cellL]; omega)]; simp
    | succ k =>
      rw [List.getElem?_append_right (by simp [cellL]; omega)]
      have e : 5 * (k + 1) + j - (cellL p).length = 5 * k + j := by simp [cellL]; omega
      rw [e, ih k (by simpa using hk)]
      simp

/-- The number of a sign in a list; -1: it isn't there. -/
def fnd : List Int → Int → Int
  | [], _ => -1
  | q :: l, p => if q = p then 0 else if fnd l p = -1 then -1 else fnd l p + 1
theorem fnd_ge (l : List Int) (p : Int) : -1 ≤ fnd l p := by
  induction l with
  | nil => simp [fnd]
  | cons q l ih => unfold fnd; split; · decide
                   split <;> omega
theorem fnd_lt (l : List Int) (p : Int) : fnd l p < l.length := by
  induction l with
  | nil => simp [fnd]
  | cons q l ih => unfold fnd; rw [List.length_cons]; split; · omega
                   split <;> omega
theorem fnd_none {l : List Int} {p : Int} : fnd l p = -1 ↔ p ∉ l := by
  induction l with
  | nil => simp [fnd]
  | cons q l ih =>
    have := fnd_ge l p
    unfold fnd
    by_cases h : q = p
    · subst h; simp
    · have h' : p ≠ q := fun e => h e.symm
      rw [if_neg h]
      by_cases h2 : fnd l p = -1
      · rw [if_pos h2]; simp [h', ih.1 h2]
      · rw [if_neg h2]
        have : p ∈ l := Classical.byContradiction fun hn => h2 (ih.2 hn)
        simp [this]; omega
theorem fnd_get {l : List Int} {p : Int} (h : 0 ≤ fnd l p) : l.getD (fnd l p).toNat 0 = p := by
  induction l with
  | nil => simp [fnd] at h
  | cons q l ih =>
    have hg := fnd_ge l p
    unfold fnd at h ⊢
    by_cases e : q = p
    · subst e; simp
    · rw [if_neg e] at h ⊢
      by_cases h2 : fnd l p = -1
      · rw [if_pos h2] at h; omega
      · rw [if_neg h2] at h ⊢
        have e2 : (fnd l p + 1).toNat = (fnd l p).toNat + 1 := by omega
        rw [e2, List.getD_cons_succ]
        exact ih (by omega)

theorem cell_digits {p : Int} (h : 0 ≤ p ∧ p ≤ 65535) : (0 ≤ p / 4096 ∧ p / 4096 < 16) ∧ (0 ≤ p / 256 % 16 ∧ p / 256 % 16 < 16) ∧ (0 ≤ p / 16 % 16 ∧ p / 16 % 16 < 16) ∧ (0 ≤ p % 16 ∧ p % 16 < 16) := by omega
theorem cell_inj {p q : Int} (hp : 0 ≤ p ∧ p ≤ 65535) (hq : 0 ≤ q ∧ q ≤ 65535) (h : cellL p = cellL q) : p = q := by
  obtain ⟨a1, a2, a3, a4⟩ := cell_digits hp
  obtain ⟨b1, b2, b3, b4⟩ := cell_digits hq
  simp only [cellL, List.cons.injEq, and_true] at h
  obtain ⟨e1, e2, e3, e4⟩ := h
  have f1 := hexD_inj a1.1 a1.2 b1.1 b1.2 e1
  have f2 := hexD_inj a2.1 a2.2 b2.1 b2.2 e2
  have f3 := hexD_inj a3.1 a3.2 b3.1 b3.2 e3
  have f4 := hexD_inj a4.1 a4.2 b4.1 b4.2 e4
  omega

theorem index_no {b : UInt8} {l sub : List UInt8} (h : sub.isPrefixOf (b :: l) = false) : Lib.index (b :: l) sub = if Lib.index l sub = -1 then -1 else Lib.index l sub + 1 := by
  rw [Lib.index, h]
  simp
theorem index_hex (ps : List Int) (p : Int) (hs : SmallP ps) (hp : 0 ≤ p ∧ p ≤ 65535) : Lib.index (hexL ps) (cellL p) = if fnd ps p = -1 then -1 else 5 * fnd ps p := by
  induction ps with
  | nil => rfl
  | cons q ps ih =>
    have hq := hs q (by simp)
    have ih := ih (fun x hx => hs x (by simp [hx]))
    obtain ⟨a1, a2, a3, a4⟩ := cell_digits hp
    have n1 := hexD_blank a1.1 a1.2
    have n2 := hexD_blank a2.1 a2.2
    have n3 := hexD_blank a3.1 a3.2
    have n4 := hexD_blank a4.1 a4.2
    have hg := fnd_ge ps p
    rw [hexL_cons]
    by_cases e : q = p
    · subst e
      simp only [fnd, if_true]
      unfold Lib.index cellL
      simp [List.isPrefixOf]
    · have hne : ¬ cellL p = cellL q := fun h => e (cell_inj hp hq h).symm
      have h0 : (cellL p).isPrefixOf (cellL q ++ hexL ps) = false := by
        rw [Bool.eq_false_iff]
        intro h
        have := List.isPrefixOf_iff_prefix.1 h
        exact hne (List.IsPrefix.eq_of_length (List.prefix_of_prefix_length_le this (List.prefix_append _ _) (by simp [cellL])) (by simp [cellL]))
      have hr : Lib.index (cellL q ++ hexL ps) (cellL p) = if Lib.index (hexL ps) (cellL p) = -1 then -1 else Lib.index (hexL ps) (cellL p) + 5 := by
        generalize hI : Lib.index (hexL ps) (cellL p) = I
        have hI1 : -1 ≤ I := by rw [← hI]; exact Lib.index_ge _ _
        have e5 : ∀ x y z u : UInt8, Lib.index (x :: y :: z :: u :: 32 :: hexL ps) (cellL p) = if Lib.index (hexL ps) (cellL p) = -1 then (if (cellL p).isPrefixOf (x :: y :: z :: u :: 32 :: hexL ps) then 0 else -1) else (if (cellL p).isPrefixOf (x :: y :: z :: u :: 32 :: hexL ps) then 0 else Lib.index (hexL ps) (cellL p) + 5) := by
          intro x y z u
          have i4 : Lib.index (32 :: hexL ps) (cellL p) = if Lib.index (hexL ps) (cellL p) = -1 then -1 else Lib.index (hexL ps) (cellL p) + 1 := index_no (by simp [cellL, List.isPrefixOf, beq_eq_false_iff_ne.2 n1])
          have i3 : Lib.index (u :: 32 :: hexL ps) (cellL p) = if Lib.index (32 :: hexL ps) (cellL p) = -1 then -1 else Lib.index (32 :: hexL ps) (cellL p) + 1 := index_no (by simp [cellL, List.isPrefixOf, beq_eq_false_iff_ne.2 n2])
          have i2 : Lib.index (z :: u :: 32 :: hexL ps) (cellL p) = if Lib.index (u :: 32 :: hexL ps) (cellL p) = -1 then -1 else Lib.index (u :: 32 :: hexL ps) (cellL p) + 1 := index_no (by simp [cellL, List.isPrefixOf, beq_eq_false_iff_ne.2 n3])
          have i1 : Lib.index (y :: z :: u :: 32 :: hexL ps) (cellL p) = if Lib.index (z :: u :: 32 :: hexL ps) (cellL p) = -1 then -1 else Lib.index (z :: u :: 32 :: hexL ps) (cellL p) + 1 := index_no (by simp [cellL, List.isPrefixOf, beq_eq_false_iff_ne.2 n4])
          have i0 : Lib.index (x :: y :: z :: u :: 32 :: hexL ps) (cellL p) = if (cellL p).isPrefixOf (x :: y :: z :: u :: 32 :: hexL ps) then 0 else if Lib.index (y :: z :: u :: 32 :: hexL ps) (cellL p) == -1 then -1 else Lib.index (y :: z :: u :: 32 :: hexL ps) (cellL p) + 1 := by rw [Lib.index]
          rw [i0, i1, i2, i3, i4, hI]
          by_cases h1 : I = -1
          · simp [h1]
          · have k1 : ¬ I + 1 = -1 := by omega
            have k2 : ¬ I + 1 + 1 = -1 := by omega
            have k3 : ¬ I + 1 + 1 + 1 = -1 := by omega
            have k4 : ¬ I + 1 + 1 + 1 + 1 = -1 := by omega
            simp only [h1, k1, k2, k3, k4, if_false, beq_iff_eq]
            split
            · rfl
            · omega
        have := e5 (hexD (q / 4096)) (hexD (q / 256 % 16)) (hexD (q / 16 % 16)) (hexD (q % 16))
        have h0' : (cellL p).isPrefixOf (hexD (q / 4096) :: hexD (q / 256 % 16) :: hexD (q / 16 % 16) :: hexD (q % 16) :: 32 :: hexL ps) = false := h0
        rw [h0', hI] at this
        exact this
      rw [hr, ih]
      simp only [fnd, if_neg e]
      by_cases h2 : fnd ps p = -1
      · simp [h2]
      · have k : ¬ 5 * fnd ps p = -1 := by omega
        have k' : ¬ fnd ps p + 1 = -1 := by omega
        simp only [h2, k, k', if_false]
        omega
end Go.Proofs.YtpnjandlpbjddabDoor

/- Chapter 07 in plain numbers: the groups of syllables, how many of them stand ahead of one, and which is the k-th. No program in sight. -/
set_option maxRecDepth 100000
set_option maxHeartbeats 1000000
namespace Go.Proofs.YtpnjandlpbjddabDoor
open Go

def G : List Nat := [
  251594643, 3866899, 2621715, 273, 242943379, 3866897, 37421463, 655633, 7050643, 2819347, 3277073, 2818323,
  655633, 7047059, 3146003, 524289, 721171, 273, 2818963, 1, 74122643, 37422359, 3866899, 259,
  0, 3866903, 2686995, 35127569, 1, 15401299, 3145987, 2097155, 2294033, 1, 7045395, 3145985,
  1245459, 196881, 1, 36406611, 0, 2818323, 184223639, 3866899, 2162963, 0, 138087707, 3866899,
  20119827, 17, 204145939, 1048849, 0, 721169, 2752787, 2818451, 1048577, 1, 196881, 2294019,
  74123027, 273, 69928211, 150704023, 3866899, 1, 0, 78318999, 3866899, 3146001, 17, 44766611,
  273, 1048577, 721169, 1, 2818323, 1048577, 2097153, 2752785, 2162961, 2819475, 1, 8061331,
  138084627, 3866899, 0, 0, 138087699, 3866899, 1048577, 0, 2097427, 257, 1, 17,
  0, 2195731, 0, 1, 2294033, 0, 721299, 196881, 2818321, 209387795, 3866899, 2621459,
  0, 138084627, 2818323, 3866899, 655377, 2818323, 2097169, 1048576, 2818321, 2752785, 2818323, 1048577,
  1, 2687251, 2818323, 107675923, 0, 2818323, 174786515, 8061203, 2097411, 0, 141231379, 3866899,
  12058899, 1, 2819355, 3145745, 0, 2752785, 655633, 170592151, 655633, 1, 273, 590097,
  590097, 0, 45811091, 36376479, 37421331, 131091, 0, 7013779, 3867027, 37355795, 17, 2818327,
  1048593, 1048577, 196883, 17, 103483283, 1048833, 1, 2097427, 2687249, 721171, 0, 15402259,
  138085651, 3866899, 65539, 0, 3735955, 2097153, 3866627, 0, 2294035, 0, 0, 1,
  2097153, 2687251, 0, 0, 0, 2097153, 196881, 0, 2818323, 37423003, 3866899, 2818323,
  2162961, 70978975, 3866899, 3866899, 2097425, 36373783, 2097427, 1638673, 721169, 2818323, 111870355, 1048577,
  2162963, 2818323, 2687235, 2818835, 0, 69960083, 137560347, 3342611, 2097152, 0, 3343635, 273,
  0, 16, 2295187, 1048595, 1048577, 196881, 1, 2294035, 1048577, 1, 17, 2097152,
  230675, 65809, 2818323, 104564595, 3866899, 170592531, 131345, 92211123, 2818323, 239013143, 1769745, 11245331,
  3866899, 2686995, 2818323, 2818323, 2819859, 3342611, 2294035, 2818323, 11206931, 267075859, 590097, 75204371,
  8062419, 3866899, 2163027, 273, 7013651, 2818323, 3342609, 1, 149619987, 2752771, 3145729, 2818321,
  2097171, 2819859, 1048577, 1, 721171, 65809, 2818323, 0, 107677075, 3869011, 3866899, 2097169,
  0, 3866899, 2097153, 1048577, 0, 11206931, 1048835, 1048577, 196881, 2097152, 2294035, 3145729,
  0, 1, 1, 2686977, 0, 140706067, 8061267, 3866899, 2163025, 0, 3866899, 2818323,
  1048593, 2097169, 2818323, 2097425, 0, 2818321, 65537, 2818323, 1048577, 17, 2818321, 2162961,
  2818323, 0, 2818963, 2818323, 3866899, 2097155, 0, 3867027, 2818323, 3866897, 1, 2818323,
  2162963, 2097153, 257, 1, 2818323, 2097425, 2097153, 2818323, 65809, 2294035, 0, 2818323,
  3867411, 3866899, 2097153, 0, 3867923, 2818323, 1048593, 17, 69927187, 17, 1, 2621457,
  1, 2818323, 1048577, 1, 2294035, 2162961, 722323, 196881, 2818323, 37422359, 3866899, 3,
  0, 3866899, 2818323, 3342609, 655617, 2818323, 2097153, 0, 17, 655633, 2819475, 2097153,
  0, 590097, 2687249, 721169, 0, 2818323, 2826515, 3866899, 2097153, 0, 2819347, 2818323,
  3866899, 131345, 36380947, 2621715, 2621459, 2752787, 655633, 2695443, 2162961, 2097427, 2818323, 2687251,
  36373459, 2294033, 2818323]
def gr (g : Nat) : Nat := G.getD g 0
/-- Is the n-th syllable in the rows? -/
def isIn (n : Nat) : Bool := gr (n / 28) / 2 ^ (n % 28) % 2 == 1
/-- How many syllables ahead of the n-th are in the rows (b), or not. -/
def cnt (b : Bool) : Nat → Nat
  | 0 => 0
  | n + 1 => cnt b n + (if isIn n = b then 1 else 0)
theorem cnt_both (n : Nat) : cnt true n + cnt false n = n := by
  induction n with
  | zero => rfl
  | succ n ih =>
    simp only [cnt]
    cases isIn n <;> simp <;> omega
theorem cnt_mono (b : Bool) {m n : Nat} (h : m ≤ n) : cnt b m ≤ cnt b n := by
  induction n with
  | zero => have : m = 0 := by omega
            subst this; exact Nat.le_refl _
  | succ n ih =>
    by_cases e : m = n + 1
    · subst e; exact Nat.le_refl _
    · have := ih (by omega)
      simp only [cnt]; omega
theorem pop_step : ∀ (r f x : Nat), r < f → Lib.popAux f (x % 2 ^ (r + 1)) = Lib.popAux f (x % 2 ^ r) + x / 2 ^ r % 2
  | 0, f, x, h => by
    match f, h with
    | f + 1, _ =>
      have h0 : ∀ f, Lib.popAux f 0 = 0 := by
        intro f; induction f with
        | zero => rfl
        | succ f ih => simp [Lib.popAux, ih]
      simp only [Lib.popAux, Nat.pow_zero, Nat.mod_one, Nat.zero_mod, Nat.zero_div, h0, Nat.div_one, Nat.zero_add, Nat.pow_one]
      have e1 : x % 2 % 2 = x % 2 := by omega
      have e2 : x % 2 / 2 = 0 := by omega
      rw [e1, e2, h0, Nat.add_zero]
  | r + 1, f, x, h => by
    match f, h with
    | f + 1, h =>
      have ih := pop_step r f (x / 2) (by omega)
      have e1 : x % 2 ^ (r + 1 + 1) % 2 = x % 2 := by
        rw [Nat.pow_succ, Nat.mod_mul_left_mod]
      have e2 : x % 2 ^ (r + 1) % 2 = x % 2 := by
        rw [Nat.pow_succ, Nat.mod_mul_left_mod]
      have e3 : x % 2 ^ (r + 1 + 1) / 2 = x / 2 % 2 ^ (r + 1) := by
        rw [Nat.pow_succ 2 (r + 1), Nat.mul_comm, Nat.mod_mul_right_div_self]
      have e4 : x % 2 ^ (r + 1) / 2 = x / 2 % 2 ^ r := by
        rw [Nat.pow_succ 2 r, Nat.mul_comm, Nat.mod_mul_right_div_self]
      have e5 : x / 2 ^ (r + 1) = x / 2 / 2 ^ r := by
        rw [Nat.pow_succ, Nat.mul_comm, Nat.div_div_eq_div_mul]
      simp only [Lib.popAux, e1, e2, e3, e4, e5, ih]
      omega
theorem ones_step (r x : Nat) (h : r < 64) : Lib.onesCount (x % 2 ^ (r + 1)) = Lib.onesCount (x % 2 ^ r) + x / 2 ^ r % 2 := pop_step r 64 x h
theorem ones_zero : Lib.onesCount 0 = 0 := by decide
theorem G_len : G.length = 399 := by decide +kernel
theorem G_all : G.all (fun x => Nat.ble x 268435455) = true := by decide +kernel
theorem gr_lt (g : Nat) : gr g < 2 ^ 28 := by
  unfold gr
  rw [List.getD_eq_getElem?_getD]
  by_cases h : g < G.length
  · rw [List.getElem?_eq_getElem h]
    have := List.all_eq_true.1 G_all _ (List.getElem_mem h)
    have := Nat.le_of_ble_eq_true this
    simp only [Option.getD_some]
    omega
  · rw [List.getElem?_eq_none (by omega)]; simp
/-- Counting within a group. -/
theorem cnt_group (g r : Nat) (h : r ≤ 28) : cnt true (28 * g + r) = cnt true (28 * g) + Lib.onesCount (gr g % 2 ^ r) := by
  induction r with
  | zero => simp [Nat.mod_one, ones_zero]
  | succ r ih =>
    have ih := ih (by omega)
    have e1 : (28 * g + r) / 28 = g := by omega
    have e2 : (28 * g + r) % 28 = r := by omega
    have hs := ones_step r (gr g) (by omega)
    rw [show 28 * g + (r + 1) = 28 * g + r + 1 by omega]
    simp only [cnt, isIn, e1, e2, ih, hs]
    have hb : gr g / 2 ^ r % 2 = 0 ∨ gr g / 2 ^ r % 2 = 1 := by omega
    rcases hb with hb | hb <;> simp [hb]
    omega
theorem cnt_next (g : Nat) : cnt true (28 * (g + 1)) = cnt true (28 * g) + Lib.onesCount (gr g) := by
  have h := cnt_group g 28 (by omega)
  rw [Nat.mod_eq_of_lt (gr_lt g)] at h
  rw [show 28 * (g + 1) = 28 * g + 28 by omega]
  exact h
end Go.Proofs.YtpnjandlpbjddabDoor
