/- Contracts of the law's Light, made, table, Is; what New makes, as a table with the document's pairs. -/
import Derived.Test.YtpnjandlpbjddabDoorRS
set_option maxRecDepth 100000
set_option maxHeartbeats 4000000
namespace Go.Proofs.YtpnjandlpbjddabDoor
open Go Go.RowKit

def PcsL (w : World) (B : Nat) (A : Option Addr) (l : List Pce) : Prop := Reads w B 4 A l.length (l.flatMap pV)
theorem PcsL.below {w w' : World} {B : Nat} {A : Option Addr} {l : List Pce} (h : PcsL w B A l) (hb : Below B w w') : PcsL w' B A l := Reads.below h hb
theorem PcsL.more {w : World} {B B' : Nat} {A : Option Addr} {l : List Pce} (h : PcsL w B A l) (hb : B ≤ B') : PcsL w B' A l := Reads.more h hb
theorem PcsL.piece {w : World} {B : Nat} {A : Option Addr} {l : List Pce} (h : PcsL w B A l) {k : Nat} {p : Pce} (hk : l[k]? = some p) :
    ∃ ad, A = some ad ∧ ad.block < B ∧ w.cell? (ad.add (k * 4)) = some (.int .i64 p.1) ∧ w.cell? ⟨(ad.add (k * 4)).block, (ad.add (k * 4)).off + 1, none⟩ = some (.int .i32 p.2.1) ∧
      w.cell? ⟨(ad.add (k * 4)).block, (ad.add (k * 4)).off + 2, none⟩ = some (.int .i64 p.2.2.1) ∧ w.cell? ⟨(ad.add (k * 4)).block, (ad.add (k * 4)).off + 3, none⟩ = some (.string p.2.2.2.1) := by
  have hlt : k < l.length := (List.getElem?_eq_some_iff.1 hk).1
  obtain ⟨ad, hA, hb, hc⟩ := h.2 (by omega)
  have hg : ∀ i u, (pV p)[i]? = some u → i < 4 → w.cell? (ad.add (k * 4 + i)) = some u := fun i u hu hi => hc _ _ ((flat4_at pV pV_len l k i p hk hi).trans hu)
  have g0 := hg 0 _ rfl (by omega)
  have g1 := hg 1 _ rfl (by omega)
  have g2 := hg 2 _ rfl (by omega)
  have g3 := hg 3 _ rfl (by omega)
  rw [Nat.add_zero] at g0
  rw [add_more _ _ _ (by omega)] at g1 g2 g3
  exact ⟨ad, hA, hb, g0, g1, g2, g3⟩
/-- Pieces that aren't many, nor great. -/
def LightP (l : List Pce) : Prop := l.length ≤ 12 ∧ ∀ p ∈ l, p.2.2.1 ≤ 100 ∧ p.2.2.2.1.size ≤ 300
instance (l : List Pce) : Decidable (LightP l) := by unfold LightP; exact inferInstance
def LtRel (l : List Pce) (w0 : World) (i : Value) (wr : World) : Prop := ∃ k : Nat, k ≤ l.length ∧ i = .int .i64 k ∧ (∀ p ∈ l.take k, p.2.2.1 ≤ 100 ∧ p.2.2.2.1.size ≤ 300) ∧ Below w0.heap.size w0 wr
def mdL (l : List Pce) : List Pr := match madeF [] l 0 with
  | .inl M => M
  | .inr _ => []
def mdAt (l : List Pce) : Int := match madeF [] l 0 with
  | .inl _ => -1
  | .inr k => (k : Int)
def MdPost (l : List Pce) (w0 : World) (e : Ending) (w' : World) : Prop := ∃ A c, e = .returned (.tuple #[.slice A (mdL l).length c, .int .i64 (mdAt l)]) ∧ (mdL l).length ≤ c ∧ PrsL w' w'.heap.size A (mdL l) ∧ Below w0.heap.size w0 w'
def MdRel (l : List Pce) (w0 : World) (v i : Value) (wr : World) : Prop := ∃ (k : Nat) (A : Option Addr) (c : Nat) (L : List Pr), k ≤ l.length ∧ i = .int .i64 k ∧ v = .slice A L.length c ∧ L.length ≤ c ∧ madeF [] l 0 = madeF L (l.drop k) k ∧ L.length ≤ 300 * k ∧ PrsL wr wr.heap.size A L ∧ Below w0.heap.size w0 wr
theorem row_300 {p : Pce} {r : Rw} (hp : PceOk p) (hl : p.2.2.1 ≤ 100 ∧ p.2.2.2.1.size ≤ 300) (h : rowOf p = some r) : r.2.1 ≤ 300 := by
  unfold rowOf at h
  split at h
  · obtain ⟨hg, _⟩ := hp
    generalize p.2.2.2.2 = q at *
    cases q with
    | none => cases h
    | some ps =>
      simp only at h hg
      have := hg.len
      split at h
      · injection h with h; subst h; simp only; omega
      · cases h
  · split at h
    · injection h with h; subst h; simp only; omega
    · cases h
theorem fold_len : ∀ (more l : List Pr), (more.foldl putL l).length = l.length + more.length
  | [], l => by simp
  | x :: more, l => by rw [List.foldl_cons, fold_len more, putL_len, List.length_cons]; omega
theorem join_len {l more L : List Pr} (h : joinL l more = some L) : L.length = l.length + more.length := by
  unfold joinL at h
  split at h
  · cases h
  · injection h with h; subst h; exact fold_len more l
end Go.Proofs.YtpnjandlpbjddabDoor
