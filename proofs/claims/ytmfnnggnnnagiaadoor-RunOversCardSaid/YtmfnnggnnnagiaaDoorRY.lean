/- What law RunOvers needs: tables put over one another while boxes are made, in whatever order; no condition. -/
import Derived.Test.YtmfnnggnnnagiaaDoorRX
import Derived.Test.YtmfnnggnnnagiaaDoorLin3
set_option maxRecDepth 100000
set_option maxHeartbeats 4000000
namespace Go.Proofs.YtmfnnggnnnagiaaDoor
open Go Go.RowKit

def TBV (L : List Pr) (N : Nat) (s : Value) (w : World) : Prop := ∃ A c rs, s = .slice A rs.length c ∧ rs.length ≤ N ∧ TbR w w.heap.size A rs ∧ prsT rs = L
theorem TBV.below {L : List Pr} {N : Nat} {s : Value} {w w' : World} (h : TBV L N s w) (hb : Below w.heap.size w w') : TBV L N s w' := by
  obtain ⟨A, c, rs, h1, h2, h3, h4⟩ := h
  exact ⟨A, c, rs, h1, h2, (h3.below hb).more hb.size, h4⟩
theorem TBV.slice {L : List Pr} {N : Nat} {s : Value} {w : World} (h : TBV L N s w) : ∃ A n c, s = .slice A n c := by
  obtain ⟨A, c, rs, h1, _⟩ := h
  exact ⟨A, _, c, h1⟩
theorem TBV.srt {L : List Pr} {N : Nat} {s : Value} {w : World} (h : TBV L N s w) : Srt L := by
  obtain ⟨A, c, rs, h1, _, h3, rfl⟩ := h
  exact prsT_srt h3
theorem Is_v {L : List Pr} {N : Nat} {s : Value} {w : World} {A2 : Option Addr} {c2 : Nat} (h : TBV L N s w) (hN : N ≤ 8388608) (h2 : PrsL w w.heap.size A2 L) :
    Calls Tryd.prog 17 #[.agg #[s], .slice A2 L.length c2] w fun e w' => e = .returned (.bool true) ∧ Below w.heap.size w w' := by
  obtain ⟨A, c, rs, rfl, a2, a3, a4⟩ := h
  exact Is_any A A2 c c2 rs L a4 (by omega) w a3 h2
section
variable {L : List Pr} {N : Nat} {s : Value} {w : World} {code p : Int}
theorem fwv_some {x : Pr} (hf : (L.find? fun x => decide ((x.1 : Int) = code)) = some x) (h : TBV L N s w) (hN : N ≤ 8388608) :
    Calls Tryd.prog 12 #[.agg #[s], .int .i64 code] w fun e w' => e = .returned (.tuple #[.int .i32 x.2, .bool true]) ∧ Below w.heap.size w w' := by
  obtain ⟨A, c, rs, rfl, a2, a3, a4⟩ := h
  exact fw_some hf A c rs w a4 (by omega) a3
theorem fwv_none (hf : (L.find? fun x => decide ((x.1 : Int) = code)) = none) (h : TBV L N s w) (hN : N ≤ 8388608) :
    Calls Tryd.prog 12 #[.agg #[s], .int .i64 code] w fun e w' => e = .returned (.tuple #[.int .i32 0, .bool false]) ∧ Below w.heap.size w w' := by
  obtain ⟨A, c, rs, rfl, a2, a3, a4⟩ := h
  exact fw_none hf A c rs w a4 (by omega) a3
theorem rvv_some {y : Pr} (hp : -2147483648 ≤ p ∧ p < 2147483648) (hf : (L.find? fun x => x.2 == p) = some y) (h : TBV L N s w) (hN : N ≤ 8388608) :
    Calls Tryd.prog 14 #[.agg #[s], .int .i32 p] w fun e w' => e = .returned (.tuple #[.int .i64 (y.1 : Int), .bool true]) ∧ Below w.heap.size w w' := by
  obtain ⟨A, c, rs, rfl, a2, a3, a4⟩ := h
  exact rv_some hp hf A c rs w a4 (by omega) a3
theorem rvv_none (hp : -2147483648 ≤ p ∧ p < 2147483648) (hf : (L.find? fun x => x.2 == p) = none) (h : TBV L N s w) (hN : N ≤ 8388608) :
    Calls Tryd.prog 14 #[.agg #[s], .int .i32 p] w fun e w' => e = .returned (.tuple #[.int .i64 0, .bool false]) ∧ Below w.heap.size w w' := by
  obtain ⟨A, c, rs, rfl, a2, a3, a4⟩ := h
  exact rv_none hp hf A c rs w a4 (by omega) a3
end
def W3x (w : World) (a b c : Value) (T : TypeId) : World := ((w.alloc (.cells #[a] T)).alloc (.cells #[b] T)).alloc (.cells #[c] T)
theorem w3x_size (w : World) (a b c : Value) (T : TypeId) : (W3x w a b c T).heap.size = w.heap.size + 3 := by simp [W3x]
theorem below_3x {B : Nat} {w0 w : World} (h : Below B w0 w) (hB : B ≤ w.heap.size) (a b c : Value) (T : TypeId) : Below B w0 (W3x w a b c T) :=
  ((h.alloc hB _).alloc (by simp; omega) _).alloc (by simp; omega) _
theorem bx111 {w wr : World} {a b c : Value} {T : TypeId} (h : Below (W3x w a b c T).heap.size (W3x w a b c T) wr) :
    wr.cell? ⟨w.heap.size, 0, none⟩ = some a ∧ wr.cell? ⟨w.heap.size + 1, 0, none⟩ = some b ∧ wr.cell? ⟨w.heap.size + 1 + 1, 0, none⟩ = some c ∧ w.heap.size + 1 + 1 < wr.heap.size := by
  have h2 : Below ((w.alloc (.cells #[a] T)).alloc (.cells #[b] T)).heap.size ((w.alloc (.cells #[a] T)).alloc (.cells #[b] T)) wr := below_a1 h
  obtain ⟨a1, a2, _, _⟩ : wr.cell? ⟨w.heap.size, 0, none⟩ = some a ∧ wr.cell? ⟨w.heap.size + 1, 0, none⟩ = some b ∧ True ∧ True := by
    obtain ⟨b1, _, _⟩ := bx h2
    obtain ⟨c1, _, _⟩ := bx (below_a1 h2)
    simp only [World.size_alloc] at b1
    exact ⟨c1 0, b1 0, trivial, trivial⟩
  unfold W3x at h
  obtain ⟨b3, _, hs⟩ := bx h
  simp only [World.size_alloc] at b3 hs
  exact ⟨a1, a2, b3 0, hs⟩
theorem Over_v {Lx Ly : List Pr} {Nx Ny : Nat} {sx sy : Value} {w : World} (hx : TBV Lx Nx sx w) (hy : TBV Ly Ny sy w) (h1 : Nx ≤ 8388608) (h2 : Ny ≤ 8388608) :
    Calls Tryd.prog 20 #[.agg #[sx], .agg #[sy]] w fun e w' => ∃ s, e = .returned (.agg #[s]) ∧ TBV (overL Lx Ly) (Nx + 1048576) s w' ∧ Below w.heap.size w w' := by
  obtain ⟨A, c, rs, rfl, a2, a3, rfl⟩ := hx
  obtain ⟨A', c', rs', rfl, b2, b3, rfl⟩ := hy
  refine (Over_any A A' c c' rs rs' (by omega) (by omega) w a3 b3).mono ?_
  rintro e w' ⟨B, d, ts, rfl, g1, g2, g3, g4, g5⟩
  exact ⟨_, rfl, ⟨B, d, ts, rfl, by omega, g3, g4⟩, g5⟩
def Bx (W0 : World) (b : Nat) (w : World) : Prop := W0.heap.size ≤ b ∧ w.heap[b]? = some (.cells #[.slice none 0 0] 27 (0, 0))
theorem Bx.lt {W0 : World} {b : Nat} {w : World} (h : Bx W0 b w) : b < w.heap.size := (Array.getElem?_eq_some_iff.1 h.2).1
theorem Bx.keep {W0 : World} {b : Nat} {w w' : World} (h : Bx W0 b w) (hb : Below w.heap.size w w') : Bx W0 b w' := ⟨h.1, by rw [hb.block b h.lt]; exact h.2⟩
structure OvS (W0 : World) (l m n : List Pr) (k : Nat) (u v : Bool) (s1 s2 s3 s4 : Value) (bu bv : Nat) (w : World) : Prop where
  below : Below W0.heap.size W0 w
  e1 : 1 ≤ k → TBV (overL m n) 1052672 s1 w
  e2 : 2 ≤ k → TBV (overL l (overL m n)) 1052672 s2 w
  e3 : 3 ≤ k → TBV (overL l m) 1052672 s3 w
  e4 : 4 ≤ k → TBV (overL (overL l m) n) 2101248 s4 w
  xu : u = true → Bx W0 bu w
  xv : v = true → Bx W0 bv w
  ne : u = true → v = true → bu ≠ bv
section
variable {W0 : World} {l m n : List Pr} {k : Nat} {u v : Bool} {s1 s2 s3 s4 : Value} {bu bv : Nat} {w w' : World}
theorem OvS.keep (h : OvS W0 l m n k u v s1 s2 s3 s4 bu bv w) (hb : Below w.heap.size w w') : OvS W0 l m n k u v s1 s2 s3 s4 bu bv w' :=
  ⟨h.below.trans (hb.mono h.below.size), fun hk => (h.e1 hk).below hb, fun hk => (h.e2 hk).below hb, fun hk => (h.e3 hk).below hb, fun hk => (h.e4 hk).below hb, fun hu => (h.xu hu).keep hb, fun hv => (h.xv hv).keep hb, h.ne⟩
theorem OvS.next1 (h : OvS W0 l m n 0 u v s1 s2 s3 s4 bu bv w) {s : Value} (hs : TBV (overL m n) 1052672 s w') (hb : Below w.heap.size w w') : OvS W0 l m n 1 u v s s2 s3 s4 bu bv w' :=
  have g := h.keep hb
  ⟨g.below, fun _ => hs, fun hk => absurd hk (by omega), fun hk => absurd hk (by omega), fun hk => absurd hk (by omega), g.xu, g.xv, g.ne⟩
theorem OvS.next2 (h : OvS W0 l m n 1 u v s1 s2 s3 s4 bu bv w) {s : Value} (hs : TBV (overL l (overL m n)) 1052672 s w') (hb : Below w.heap.size w w') : OvS W0 l m n 2 u v s1 s s3 s4 bu bv w' :=
  have g := h.keep hb
  ⟨g.below, fun _ => g.e1 (by omega), fun _ => hs, fun hk => absurd hk (by omega), fun hk => absurd hk (by omega), g.xu, g.xv, g.ne⟩
theorem OvS.next3 (h : OvS W0 l m n 2 u v s1 s2 s3 s4 bu bv w) {s : Value} (hs : TBV (overL l m) 1052672 s w') (hb : Below w.heap.size w w') : OvS W0 l m n 3 u v s1 s2 s s4 bu bv w' :=
  have g := h.keep hb
  ⟨g.below, fun _ => g.e1 (by omega), fun _ => g.e2 (by omega), fun _ => hs, fun hk => absurd hk (by omega), g.xu, g.xv, g.ne⟩
theorem OvS.next4 (h : OvS W0 l m n 3 u v s1 s2 s3 s4 bu bv w) {s : Value} (hs : TBV (overL (overL l m) n) 2101248 s w') (hb : Below w.heap.size w w') : OvS W0 l m n 4 u v s1 s2 s3 s bu bv w' :=
  have g := h.keep hb
  ⟨g.below, fun _ => g.e1 (by omega), fun _ => g.e2 (by omega), fun _ => g.e3 (by omega), fun _ => hs, g.xu, g.xv, g.ne⟩
theorem OvS.nextU (h : OvS W0 l m n k false v s1 s2 s3 s4 bu bv w) : OvS W0 l m n k true v s1 s2 s3 s4 w.heap.size bv (w.alloc (.cells #[.slice none 0 0] 27)) :=
  have g := h.keep ((Below.refl _ w).alloc (Nat.le_refl _) (.cells #[.slice none 0 0] 27))
  ⟨g.below, g.e1, g.e2, g.e3, g.e4, fun _ => ⟨h.below.size, heap_alloc_new w _⟩, g.xv, fun _ hv => by have := (h.xv hv).lt; omega⟩
theorem OvS.nextV (h : OvS W0 l m n k u false s1 s2 s3 s4 bu bv w) : OvS W0 l m n k u true s1 s2 s3 s4 bu w.heap.size (w.alloc (.cells #[.slice none 0 0] 27)) :=
  have g := h.keep ((Below.refl _ w).alloc (Nat.le_refl _) (.cells #[.slice none 0 0] 27))
  ⟨g.below, g.e1, g.e2, g.e3, g.e4, g.xu, fun _ => ⟨h.below.size, heap_alloc_new w _⟩, fun hu _ => by have := (h.xu hu).lt; omega⟩
end
/-- What is listed when k calls are done, and the boxes are made, or not yet. -/
def lst8 : Nat → Bool → Bool → Array Bool
  | 0, u, v => #[true, true, true, false, false, true, true, false, true, false, u, v, false, false]
  | 1, u, v => #[true, true, true, true, false, true, true, false, true, false, u, v, false, false]
  | 2, u, v => #[true, true, true, true, true, true, true, false, true, false, u, v, false, false]
  | 3, u, v => #[true, true, true, true, true, true, true, true, true, false, u, v, false, false]
  | _ + 4, u, v => #[true, true, true, true, true, true, true, true, true, true, u, v, false, false]
def rk8 (s : Nat × Bool × Bool) : Nat := (4 - s.1) + (!s.2.1).toNat + (!s.2.2).toNat
def fin8 : Nat × Bool × Bool → Bool
  | (_ + 4, true, true) => true
  | _ => false
def calls8 (a : Act) : Nat → Value → Value → Value → Value → Act
  | 0, _, _, _, _ => a
  | 1, s1, _, _, _ => a.put (some 72) (.agg #[s1])
  | 2, s1, s2, _, _ => (a.put (some 72) (.agg #[s1])).put (some 73) (.agg #[s2])
  | 3, s1, s2, s3, _ => ((a.put (some 72) (.agg #[s1])).put (some 73) (.agg #[s2])).put (some 76) (.agg #[s3])
  | _ + 4, s1, s2, s3, s4 => (((a.put (some 72) (.agg #[s1])).put (some 73) (.agg #[s2])).put (some 76) (.agg #[s3])).put (some 78) (.agg #[s4])
def act8 (a : Act) (k : Nat) (u v : Bool) (s1 s2 s3 s4 : Value) (bu bv : Nat) : Act :=
  match u, v with
  | false, false => calls8 a k s1 s2 s3 s4
  | true, false => (calls8 a k s1 s2 s3 s4).put (some 21) (.pointer (some ⟨bu, 0, none⟩))
  | false, true => (calls8 a k s1 s2 s3 s4).put (some 22) (.pointer (some ⟨bv, 0, none⟩))
  | true, true => ((calls8 a k s1 s2 s3 s4).put (some 21) (.pointer (some ⟨bu, 0, none⟩))).put (some 22) (.pointer (some ⟨bv, 0, none⟩))
def RS8 (a : Act) (W0 : World) (l m n : List Pr) (s : Nat × Bool × Bool) (a' : Act) (w : World) : Prop :=
  ∃ s1 s2 s3 s4 bu bv, a' = act8 a s.1 s.2.1 s.2.2 s1 s2 s3 s4 bu bv ∧ OvS W0 l m n s.1 s.2.1 s.2.2 s1 s2 s3 s4 bu bv w
/-- A table stands while a box that it doesn't lie in is written. -/
theorem TBV.box {L : List Pr} {N : Nat} {s : Value} {w : World} {b : Nat} {x : Value} (h : TBV L N s w) (hb : w.heap[b]? = some (.cells #[x] 27 (0, 0))) (hx : ∃ A n c, x = .slice A n c) (y : Value) : TBV L N s (w.setCell ⟨b, 0, none⟩ y) := by
  obtain ⟨A, c, rs, h1, h2, ⟨⟨h3, h6⟩, h4, h5⟩, h7⟩ := h
  have hz : (w.setCell ⟨b, 0, none⟩ y).heap.size = w.heap.size := by simp
  refine ⟨A, c, rs, h1, h2, ?_, h7⟩
  rw [hz]
  refine ⟨⟨⟨h3.1, fun hn => ?_⟩, h6⟩, fun z hz => ⟨(h4 z hz).1, sg_set1 (h4 z hz).2 y hb (by decide)⟩, h5⟩
  obtain ⟨ad, e1, e2, e3⟩ := h3.2 hn
  have hne : ad.block ≠ b := fun e => by
    obtain ⟨r, rs', rfl⟩ := List.exists_cons_of_ne_nil (show rs ≠ [] from fun e => by rw [e] at hn; simp at hn)
    have h8 := e3 0 (.int .i64 (r.1.1 : Int)) rfl
    have hs := h6 ad e1
    obtain ⟨bk, off, sp⟩ := ad
    simp only at hs e
    subst hs; subst e
    rw [show (⟨bk, off, none⟩ : Addr).add 0 = ⟨bk, off, none⟩ by unfold Addr.add; simp, cell_of_row _ bk off _ _ (0, 0) hb] at h8
    obtain ⟨A', n', c', rfl⟩ := hx
    cases off with
    | zero => simp at h8
    | succ j => simp at h8
  exact ⟨ad, e1, e2, fun j u hu => (World.cell?_setCell_other _ _ _ _ (fun e => hne (by rw [← block_of_add ad j]; exact (congrArg Addr.block e).symm))).trans (e3 j u hu)⟩
theorem anyH_8 {l : List Oper} {Q : Exit → Act → World → Prop} {S : World → Prop} (hsel : Region.noSelect l.toArray = true) (hQ : ∀ c (a : Act) d v w, Q (.panic c) (a.put d v) w → Q (.panic c) a w) (W0 : World) (L M N : List Pr) (a : Act) (w : World) (fuel : Nat) (hf : 8 ≤ fuel)
    (hready : ∀ s, fin8 s = false → Region.ready .any l.toArray (lst8 s.1 s.2.1 s.2.2) ≠ [] ∧ 0 < rk8 s)
    (hstep : ∀ s a' w, fin8 s = false → S w → RS8 a W0 L M N s a' w → ∀ j, j ∈ Region.ready .any l.toArray (lst8 s.1 s.2.1 s.2.2) → wpEff Tryd.prog l Q S j (fun a' w' => ∃ s', lst8 s'.1 s'.2.1 s'.2.2 = (lst8 s.1 s.2.1 s.2.2).setIfInBounds j true ∧ rk8 s' < rk8 s ∧ RS8 a W0 L M N s' a' w') a' w)
    (hfin : ∀ s a' w, fin8 s = true → S w → RS8 a W0 L M N s a' w → linOk l.toArray [(12, false), (13, false)] (lst8 s.1 s.2.1 s.2.2) = true ∧ wpLin Tryd.prog l Q S [(12, false), (13, false)] a' w)
    (hS : S w) (hb : Below W0.heap.size W0 w) : wpAnyH Tryd.prog .any l.toArray Q S fuel #[true, true, true, false, false, true, true, false, true, false, false, false, false, false] a w :=
  anyH_of_states hsel hQ (RS8 a W0 L M N) (fun s => lst8 s.1 s.2.1 s.2.2) rk8 fin8 [(12, false), (13, false)] hready hstep hfin 6 (0, false, false) a w fuel (by decide) hf hS
    ⟨undef, undef, undef, undef, 0, 0, rfl, ⟨hb, fun h => absurd h (by decide), fun h => absurd h (by decide), fun h => absurd h (by decide), fun h => absurd h (by decide), fun h => (by simp at h), fun h => (by simp at h), fun h => (by simp at h)⟩⟩
theorem overL_len (l m : List Pr) : (overL l m).length ≤ l.length + m.length := by
  have h : ∀ (m out : List Pr), (m.foldl (fun out p => if hasC l p.1 = true then out else putL out p) out).length ≤ out.length + m.length := by
    intro m
    induction m with
    | nil => intro out; simp
    | cons p m ih =>
      intro out
      rw [List.foldl_cons]
      refine Nat.le_trans (ih _) ?_
      rw [List.length_cons]
      split
      · omega
      · rw [putL_len]; omega
  exact h m l
end Go.Proofs.YtmfnnggnnnagiaaDoor
