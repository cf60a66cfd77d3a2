/- The example that law 04 asks. -/
import Derived.Test.YtpnjandlpbjddabDoorZ8
import Derived.Sort.OwnSortedInts
import Derived.Test.YtpnjandlpbjddabDoorZ5
import Derived.Test.YtpnjandlpbjddabDoorZ3
set_option maxRecDepth 100000
set_option maxHeartbeats 4000000
namespace Go.Proofs.YtpnjandlpbjddabDoor
open Go Go.RowKit

theorem pcs_new (w : World) (T : TypeId) (l : List Pce) : PcsL (w.alloc (.cells (l.flatMap pV).toArray T)) (w.heap.size + 1) (some ⟨w.heap.size, 0, none⟩) l := by
  refine ⟨flat4_len pV pV_len l, fun _ => ⟨_, rfl, by simp, fun j u hu => ?_⟩⟩
  have hadd : (⟨w.heap.size, 0, none⟩ : Addr).add j = ⟨w.heap.size, j, none⟩ := by unfold Addr.add; split <;> simp_all
  rw [hadd, cell_of_row _ w.heap.size j _ T (0, 0) (heap_alloc_new w _)]
  simpa using hu
theorem bx22 {w wr : World} {T1 T2 : TypeId} {a b c : Value} (h : Below ((w.alloc (.cells #[a] T1)).alloc (.cells #[b, c] T2)).heap.size ((w.alloc (.cells #[a] T1)).alloc (.cells #[b, c] T2)) wr) :
    wr.cell? ⟨w.heap.size, 0, none⟩ = some a ∧ wr.cell? ⟨w.heap.size + 1, 0, none⟩ = some b ∧ wr.cell? ⟨w.heap.size + 1, 1, none⟩ = some c ∧ w.heap.size + 1 < wr.heap.size := by
  obtain ⟨b1, _, hs⟩ := bx h
  obtain ⟨a1, _, _⟩ := bx (below_a1 h)
  simp only [World.size_alloc] at b1 hs
  exact ⟨a1 0, b1 0, b1 1, hs⟩
def awL : List Pce := [(0, 65, 3, ⟨#[]⟩, some []), (10, 0, 0, ⟨#[120, 121]⟩, some [120, 121])]
def awU : List Pce := [(1, 65, 1, ⟨#[]⟩, some [])]
theorem awL_ok : ∀ p ∈ awL, PceOk p ∧ p.2.2.2.1.size ≤ 1000000 := by
  intro p hp
  simp only [awL, List.mem_cons, List.not_mem_nil, or_false] at hp
  rcases hp with rfl | rfl
  · exact ⟨⟨⟨rfl, by simp⟩, by decide, by decide, by decide⟩, by decide⟩
  · exact ⟨⟨⟨rfl, by decide⟩, by decide, by decide, by decide⟩, by decide⟩
theorem awU_ok : ∀ p ∈ awU, PceOk p ∧ p.2.2.2.1.size ≤ 1000000 := by
  intro p hp
  simp only [awU, List.mem_cons, List.not_mem_nil, or_false] at hp
  rcases hp with rfl
  exact ⟨⟨⟨rfl, by simp⟩, by decide, by decide, by decide⟩, by decide⟩
theorem aw_made : madeF [] awL 0 = .inl [(0, 65), (1, 66), (2, 67), (10, 120), (11, 121)] := by decide
theorem awU_made : madeF [] awU 0 = .inl [(1, 65)] := by decide
def NcPost (M : List Pr) (w0 : World) (e : Ending) (w' : World) : Prop := ∃ A c rs, e = .returned (.tuple #[.agg #[.slice A rs.length c], .agg #[.int .i64 0, .int .i64 0]]) ∧ rs.length ≤ c ∧ rs.length ≤ 4096 ∧ TbR w' w'.heap.size A rs ∧ prsT rs = M ∧ Below w0.heap.size w0 w'
theorem New_const {l : List Pce} {M : List Pr} (hm : madeF [] l 0 = .inl M) (hl : l.length ≤ 4096) (hok : ∀ p ∈ l, PceOk p ∧ p.2.2.2.1.size ≤ 1000000) (T : TypeId) (w : World) (hT : Tabs w) :
    Calls Tryd.prog 25 #[.slice (some ⟨w.heap.size, 0, none⟩) l.length l.length] (w.alloc (.cells (l.flatMap pV).toArray T)) (NcPost M (w.alloc (.cells (l.flatMap pV).toArray T))) := by
  refine (New_tb l _ _ hl hok _ (tabs_alloc hT _) ((pcs_new w T l).more (by simp))).mono ?_
  rintro e w' ⟨A, c, rs, rfl, h1, h2, h3, h4, hb⟩
  unfold ftE ftA mdL at *
  rw [hm] at h4 ⊢
  exact ⟨A, c, rs, rfl, h1, h2, h3, h4, hb⟩
theorem tb_a2 {w : World} {A : Option Addr} {rs : List (Rw × Sl)} (h : TbR w w.heap.size A rs) (o1 o2 : Obj) : TbR ((w.alloc o1).alloc o2) ((w.alloc o1).alloc o2).heap.size A rs :=
  (h.below (((Below.refl _ w).alloc (Nat.le_refl _) _).alloc (by simp) _)).more (by simp; omega)
theorem aw_over {rs6 rs5 rs3 : List (Rw × Sl)} (h : prsT rs6 = overL (prsT rs5) (prsT rs3)) (h5 : prsT rs5 = [(1, 65)]) (h3 : prsT rs3 = [(0, 65), (1, 66), (2, 67), (10, 120), (11, 121)]) : prsT rs6 = [(0, 65), (1, 65), (2, 67), (10, 120), (11, 121)] := by
  rw [h, h5, h3]; decide
theorem aw_rev {w6 : World} {A : Option Addr} {c : Nat} {rs6 rs5 : List (Rw × Sl)} (h : TbR w6 w6.heap.size A rs6) (hn : rs6.length ≤ rs5.length + 1048576) (hn5 : rs5.length ≤ 4096) {L : List Pr} (hL : prsT rs6 = L) (p : Int) (v : Nat) (b : Bool) (hp : -2147483648 ≤ p ∧ p < 2147483648)
    (hv : (((L.find? fun x => x.2 == p).map (·.1)).getD 0, ((L.find? fun x => x.2 == p).map (·.1)).isSome) = (v, b)) (W : World) (hb : Below w6.heap.size w6 W) :
    Calls Tryd.prog 60 #[.agg #[.slice A rs6.length c], .int .i32 p] W fun e w' => e = .returned (.tuple #[.int .i64 (v : Nat), .bool b]) ∧ Below W.heap.size W w' := by
  have h1 := Reverse_any A c rs6 p hp (by omega) W ((h.below hb).more hb.size)
  rw [revR_eq, show (rs6.map (·.1)).flatMap prs = L from hL] at h1
  injection hv with h2 h3
  rw [h2, h3] at h1
  exact h1
theorem aw_fwd {w6 : World} {A : Option Addr} {c : Nat} {rs6 rs5 : List (Rw × Sl)} (h : TbR w6 w6.heap.size A rs6) (hn : rs6.length ≤ rs5.length + 1048576) (hn5 : rs5.length ≤ 4096) (hL : prsT rs6 = [(0, 65), (1, 65), (2, 67), (10, 120), (11, 121)]) (W : World) (hb : Below w6.heap.size w6 W) :
    Calls Tryd.prog 61 #[.agg #[.slice A rs6.length c], .int .i64 11] W fun e w' => e = .returned (.tuple #[.int .i32 121, .bool true]) ∧ Below W.heap.size W w' := by
  have h1 := Forward_any A c rs6 11 (by omega) W ((h.below hb).more hb.size)
  unfold FdPost fwdR at h1
  rw [show (rs6.map (·.1)).flatMap prs = _ from hL] at h1
  exact h1
theorem aw_size {w6 : World} {B : Nat} {A : Option Addr} {c : Nat} {rs3 : List (Rw × Sl)} (h : TbR w6 B A rs3) (hL : prsT rs3 = [(0, 65), (1, 66), (2, 67), (10, 120), (11, 121)]) (hn : rs3.length ≤ 4096) (hB : B ≤ w6.heap.size) (W : World) (hb : Below w6.heap.size w6 W) :
    Calls Tryd.prog 39 #[.agg #[.slice A rs3.length c]] W fun e w' => e = .returned (.int .i64 5) ∧ Below W.heap.size W w' := by
  have h1 := Size_any A c rs3 (by omega) W (((h.more hB).below hb).more hb.size)
  rw [← szR_len, show (rs3.map (·.1)).flatMap prs = _ from hL] at h1
  exact h1
theorem aw_keep {w6 : World} {b3 b5 : Nat} {t1 : Value} (v : Value) (T : TypeId) (q0 : w6.cell? ⟨b3, 0, none⟩ = some t1) (q1 : w6.cell? ⟨b3 + 1, 0, none⟩ = some (.int .i64 0)) (q2 : w6.cell? ⟨b3 + 1, 1, none⟩ = some (.int .i64 0)) (q4 : w6.cell? ⟨b5 + 1, 0, none⟩ = some (.int .i64 0)) (q5 : w6.cell? ⟨b5 + 1, 1, none⟩ = some (.int .i64 0)) (k1 : b3 < w6.heap.size) (k2 : b3 + 1 < w6.heap.size) (k3 : b5 + 1 < w6.heap.size) (W : World) (hb : Below (w6.alloc (.cells #[v] T)).heap.size (w6.alloc (.cells #[v] T)) W) :
    W.cell? ⟨w6.heap.size, 0, none⟩ = some v ∧ W.cell? ⟨b3, 0, none⟩ = some t1 ∧ W.cell? ⟨b3 + 1, 0, none⟩ = some (.int .i64 0) ∧ W.cell? ⟨b3 + 1, 1, none⟩ = some (.int .i64 0) ∧ W.cell? ⟨b5 + 1, 0, none⟩ = some (.int .i64 0) ∧ W.cell? ⟨b5 + 1, 1, none⟩ = some (.int .i64 0) := by
  obtain ⟨h1, _, _⟩ := bx hb
  have h2 := below_a1 hb
  exact ⟨h1 0, (h2.cell (p := ⟨b3, 0, none⟩) k1).trans q0, (h2.cell (p := ⟨b3 + 1, 0, none⟩) k2).trans q1, (h2.cell (p := ⟨b3 + 1, 1, none⟩) k2).trans q2, (h2.cell (p := ⟨b5 + 1, 0, none⟩) k3).trans q4, (h2.cell (p := ⟨b5 + 1, 1, none⟩) k3).trans q5⟩
theorem Awake_any (w : World) (hT : Tabs w) :
    Calls Tryd.prog 38 #[] w fun e w' => e = .returned (.bool true) ∧ Below w.heap.size w w' := by
  have hN1 := fun w hT => New_const aw_made (by decide) awL_ok 46 w hT
  have hN2 := fun w hT => New_const awU_made (by decide) awU_ok 46 w hT
  unfold NcPost at hN1 hN2
  have hl1 : (awL.flatMap pV).toArray = #[.int .i64 0, .int .i32 65, .int .i64 3, .string ⟨#[]⟩, .int .i64 10, .int .i32 0, .int .i64 0, .string ⟨#[120, 121]⟩] := rfl
  have hl2 : (awU.flatMap pV).toArray = #[.int .i64 1, .int .i32 65, .int .i64 1, .string ⟨#[]⟩] := rfl
  rw [hl1, show awL.length = 2 from rfl] at hN1
  rw [hl2, show awU.length = 1 from rfl] at hN2
  clear hl1 hl2
  have HP : Hid (∀ w', Below w.heap.size w w' → (fun e w' => e = Ending.returned (.bool true) ∧ Below w.heap.size w w') (.returned (.bool true)) w') := Lib.hid fun w' hb => ⟨rfl, hb⟩
  generalize (fun (e : Ending) (w' : World) => e = Ending.returned (.bool true) ∧ Below w.heap.size w w') = P at *
  go_enter Tryd.func38, Tryd.ntmps38
  go_wp2_with (first
    | (go_at_call 16; first
      | (refine (Seq_any 0 65 3 _).mono ?_; rintro e w1 ⟨rfl, hb1⟩; have HB1 := Lib.hid hb1; have hT1 := Tabs_below hT hb1 (Nat.le_refl _))
      | (refine (Seq_any 1 65 1 _).mono ?_; rintro e w4 ⟨rfl, hb4⟩; have HB4 := Lib.hid hb4; have hT4 := Tabs_below (tabs_alloc (tabs_alloc hT3 _) _) hb4 (Nat.le_refl _)))
    | (go_at_call 34; refine (List_any 10 _ _).mono ?_; rintro e w2 ⟨rfl, hb2⟩; have HB2 := Lib.hid (HB1.out.trans (hb2.mono HB1.out.size)); have hT2 := Tabs_below hT1 hb2 (Nat.le_refl _))
    | (go_at_call 25; first
      | (refine (hN1 _ hT2).mono ?_; rintro e w3 ⟨A3, c3, rs3, rfl, h13, h23, h33, h43, hb3⟩; have HB3 := Lib.hid (HB2.out.trans ((below_a1 hb3).mono HB2.out.size)); have hT3 := Tabs_below (tabs_alloc hT2 _) hb3 (Nat.le_refl _); have H33 := Lib.hid h33; have H43 := Lib.hid h43; clear h33 h43 hN1 hT1 hT2 hb1 hb2 hb3)
      | (refine (hN2 _ hT4).mono ?_; rintro e w5 ⟨A5, c5, rs5, rfl, h15, h25, h35, h45, hb5⟩; have HB5 := Lib.hid (HB4.out.trans ((below_a1 hb5).mono HB4.out.size)); have H35 := Lib.hid h35; have H45 := Lib.hid h45; clear h35 h45 hN2 hb5 hT3 hT4; obtain ⟨p0, p1, p2, ps⟩ := bx22 HB5.out; have g1 : w3.heap.size < w5.heap.size := (by omega); have g2 : w3.heap.size < w5.heap.size + 1 := (by omega); have g3 : w3.heap.size + 1 < w5.heap.size + 1 := (by omega); have H3b := Lib.hid ((H33.out.below (below_a2 HB5.out)).more (show w3.heap.size ≤ w5.heap.size by omega))))
    | (go_at_call 36; refine (Over_any A5 A3 c5 c3 rs5 rs3 (by omega) (by omega) _ (tb_a2 H35.out _ _) (tb_a2 H3b.out _ _)).mono ?_; rintro e w6 ⟨A6, c6, rs6, rfl, h16, h26, h36, h46, hb6⟩; obtain ⟨q3, q4, q5, qs⟩ := bx22 hb6; have hb56 := below_a2 hb6; have q0 := (hb56.cell (p := ⟨w3.heap.size, 0, none⟩) g1).trans p0; have q1 := (hb56.cell (p := ⟨w3.heap.size + 1, 0, none⟩) ps).trans p1; have q2 := (hb56.cell (p := ⟨w3.heap.size + 1, 1, none⟩) ps).trans p2; have HB6 := Lib.hid (hb56.mono (show w.heap.size ≤ w5.heap.size by have := HB3.out.size; omega)); have k1 : w3.heap.size < w6.heap.size := (by omega); have k2 : w3.heap.size + 1 < w6.heap.size := (by omega); have k3 : w5.heap.size + 1 < w6.heap.size := (by omega); have hR65 := aw_rev (A := A6) (c := c6) h36 h26 h25 (aw_over h46 H45.out H43.out) 65 0 true (by decide) rfl; have hR66 := aw_rev (A := A6) (c := c6) h36 h26 h25 (aw_over h46 H45.out H43.out) 66 0 false (by decide) rfl; have hF11 := aw_fwd (A := A6) (c := c6) h36 h26 h25 (aw_over h46 H45.out H43.out); have hS5 := aw_size (c := c3) (H3b.out.below hb56) H43.out h23 (show w5.heap.size ≤ w6.heap.size by omega); have hK := aw_keep (.slice A6 rs6.length c6) 24 q0 q1 q2 q4 q5 k1 k2 k3; clear p0 p1 p2 q0 q1 q2 q3 q4 q5 hb6 h36 h46 g2 g3)
    | (go_at_call 60; first
      | (refine (hR65 _ ((Below.refl _ _).alloc (Nat.le_refl _) _)).mono ?_; rintro e w7 ⟨rfl, hb7⟩; have HB7 := Lib.hid hb7; clear hR65; obtain ⟨a0, a1, a2, a3, a4, a5⟩ := hK _ HB7.out)
      | (refine (hR66 _ (below_a1 HB7.out)).mono ?_; rintro e w8 ⟨rfl, hb8⟩; have HB8 := Lib.hid (HB7.out.trans (hb8.mono HB7.out.size)); clear hR66 a0 a1 a2 a3 a4 a5; obtain ⟨a0, a1, a2, a3, a4, a5⟩ := hK _ HB8.out))
    | (go_at_call 61; refine (hF11 _ (below_a1 HB8.out)).mono ?_; rintro e w9 ⟨rfl, hb9⟩; have HB9 := Lib.hid (HB8.out.trans (hb9.mono HB8.out.size)); clear hF11 a0 a1 a2 a3 a4 a5; obtain ⟨a0, a1, a2, a3, a4, a5⟩ := hK _ HB9.out)
    | (go_at_call 9; first
      | (refine (Bad_any 0 0 w9).mono ?_; rintro e w10 ⟨rfl, hb10⟩; have HB10 := Lib.hid (HB9.out.trans (hb10.mono HB9.out.size)); clear a0 a1 a2 a3 a4 a5; obtain ⟨a0, a1, a2, a3, a4, a5⟩ := hK _ HB10.out)
      | (refine (Bad_any 0 0 w10).mono ?_; rintro e w11 ⟨rfl, hb11⟩; have HB11 := Lib.hid (HB10.out.trans (hb11.mono HB10.out.size)); clear a0 a1 a2 a3 a4 a5; obtain ⟨a0, a1, a2, a3, a4, a5⟩ := hK _ HB11.out))
    | (go_at_call 39; refine (hS5 _ (below_a1 HB11.out)).mono ?_; rintro e w12 ⟨rfl, hb12⟩; have HB12 := Lib.hid (HB11.out.trans (hb12.mono HB11.out.size))))
  have hz3 := HB3.out.size
  exact HP.out _ (((HB3.out.trans ((below_a2 HB5.out).mono hz3)).trans HB6.out).trans ((below_a1 HB12.out).mono (by omega)))
end Go.Proofs.YtpnjandlpbjddabDoor

/- Contract of slices.SortFunc over pairs of a code and a sign: they stand by rising codes; condition: they are the call's own. -/
set_option maxRecDepth 100000
set_option maxHeartbeats 1000000
namespace Go.Proofs.YtpnjandlpbjddabDoor
open Go Go.RowKit

theorem cmp_pr (x y : Pr) (W : World) :
    Calls Tryd.prog 28 #[.agg (prV x).toArray, .agg (prV y).toArray] W fun e w' => e = .returned (.int .i64 (Lib.compareInt (x.1 : Int) (y.1 : Int))) ∧ ∃ q os', w' = Go.Sort.grow (W.drewN q) os' := by
  have hcon := fun W' => Tryd.cmp_Compare_int (x.1 : Int) (y.1 : Int) W'
  generalize Lib.compareInt (x.1 : Int) (y.1 : Int) = r at hcon ⊢
  have hcon : ∀ W, Calls Tryd.prog 29 #[.int .i64 (x.1 : Int), .int .i64 (y.1 : Int)] W fun e w' => e = .returned (.int .i64 r) ∧ W = w' := fun W => (hcon W).mono fun e w' h => ⟨h.1, h.2.symm⟩
  unfold prV
  go_enter Tryd.func28, Tryd.ntmps28
  go_wp2_with (go_at_call 29; refine (hcon _).mono ?_; rintro e w' ⟨rfl, rfl⟩)
  go_ret
  exact ⟨rfl, 0, _, by rw [Go.Sort.alloc_eq_grow, Go.Sort.alloc_eq_grow, Go.Sort.grow_grow]; rfl⟩
def cfP (x y : Pr) : Int := Lib.compareInt (x.1 : Int) (y.1 : Int)
theorem lt_pr (x y : Pr) : ltOf cfP x y = decide (x.1 < y.1) := by
  unfold ltOf cfP Lib.compareInt
  by_cases h1 : x.1 < y.1
  · simp [h1]
  · by_cases h2 : y.1 < x.1 <;> simp [h1, h2]
theorem swo_pr : Go.Sort.SWO (ltOf cfP) :=
  ⟨fun x => by rw [lt_pr]; simp, fun x y z h1 h2 => by rw [lt_pr] at *; simp at *; omega, fun x y z h1 h2 => by rw [lt_pr] at *; simp at *; omega⟩
theorem cmp_lays_pr (blk off size : Nat) (w : World) : CmpLays Tryd.prog 28 #[] prV 2 cfP blk off size w :=
  fun _ _ _ _ x y => cmp_pr x y _
theorem prV_one : ∀ x : Pr, ∀ v ∈ prV x, v.oneCell' = true := fun x v hv => by
  simp only [prV, List.mem_cons, List.not_mem_nil, or_false] at hv
  rcases hv with rfl | rfl <;> rfl
theorem prV_two : ∀ x : Pr, (prV x).length = 2 := fun _ => rfl
theorem fl2_at {α : Type} (f : α → List Value) (hf : ∀ x, (f x).length = 2) : ∀ (l : List α) (k i : Nat) (x : α), l[k]? = some x → i < 2 → (l.flatMap f)[k * 2 + i]? = (f x)[i]?
  | [], k, i, x, h, _ => by simp at h
  | a :: l, 0, i, x, h, hi => by
    simp at h; subst h
    rw [List.flatMap_cons, Nat.zero_mul, Nat.zero_add, List.getElem?_append_left (by rw [hf]; exact hi)]
  | a :: l, k + 1, i, x, h, hi => by
    rw [List.flatMap_cons, List.getElem?_append_right (by rw [hf]; omega), hf, show (k + 1) * 2 + i - 2 = k * 2 + i by omega]
    exact fl2_at f hf l k i x (by simpa using h) hi
theorem fl2_len {α : Type} (f : α → List Value) (hf : ∀ x, (f x).length = 2) : ∀ l : List α, (l.flatMap f).length = l.length * 2
  | [] => rfl
  | a :: l => by rw [List.flatMap_cons, List.length_append, hf, fl2_len f hf l, List.length_cons]; omega
theorem fl2_get (ts : List (Pr)) (j : Nat) (hj : j < ts.length * 2) : some (Go.Sort.flatK prV 2 ts.toArray)[j]! = (ts.flatMap prV)[j]? := by
  have hk : j / 2 < ts.length := by omega
  have he : j = j / 2 * 2 + j % 2 := by omega
  rw [Go.Sort.get_flatK _ _ _ _ (by simpa using hj)]
  conv => rhs; rw [he]
  rw [fl2_at prV prV_two ts (j / 2) (j % 2) ts[j / 2] (List.getElem?_eq_getElem hk) (Nat.mod_lt _ (by omega))]
  have e1 : ts.toArray[j / 2]! = ts[j / 2] := by simp [hk]
  have hlt : j % 2 < (prV ts[j / 2]).length := by rw [prV_two]; exact Nat.mod_lt _ (by omega)
  rw [e1, List.getElem?_eq_getElem hlt, getElem!_pos (prV ts[j / 2]) (j % 2) hlt]
/-- Rows that the call owns, as the sort reads them. -/
theorem holds_prs {w : World} {base g cap : Nat} {e : TypeId} {ts : List (Pr)} (h : w.ownsRow base e 2 (.slice (some ⟨g, 0, none⟩) ts.length cap) ts.length (ts.flatMap prV)) : Go.Sort.HoldsK prV 2 w g 0 ts.toArray := by
  intro j hj
  have hj' : j < ts.length * 2 := by simpa using hj
  have hl : (ts.flatMap prV).length = ts.length * 2 := h.1
  refine ⟨?_, ?_⟩
  · rw [Nat.zero_add, h.cellAt j hj', ← fl2_get ts j hj']; rfl
  · rw [Nat.zero_add]; exact h.frozenAt j
theorem grown_prs {w : World} {g n : Nat} {os : Array Obj} (d : Array (Pr)) : w.grownBy (sortWorldK prV 2 w g 0 n d os) (some g) := by
  unfold sortWorldK Go.Sort.putRowK
  refine ⟨rfl, rfl, rfl, by simp, fun k hk hne => ?_⟩
  rw [Go.Sort.heap_grow_old _ _ (by simpa using hk)]
  have : g ≠ k := fun e => hne (by rw [e])
  simp [Go.Sort.putRow, Go.Sort.mapBlock, Go.Sort.ahead, Array.getElem?_modify, this]
def SpPost2 (base g : Nat) (rs : List (Pr)) (w0 : World) (e : Ending) (w' : World) : Prop :=
  e = .returned (.tuple #[]) ∧ ∃ rs' : List (Pr), rs'.Perm rs ∧ rs'.Pairwise (fun a b => a.1 ≤ b.1) ∧ (∀ j u, (rs'.flatMap prV)[j]? = some u → w'.cell? ⟨g, j, none⟩ = some u) ∧ w0.heap.size ≤ w'.heap.size ∧ Below base w0 w' ∧ w0.grownBy w' (some g)
theorem SortP_any (base g cap : Nat) (rs : List (Pr)) (w : World) (h : w.ownsRow base 43 2 (.slice (some ⟨g, 0, none⟩) rs.length cap) rs.length (rs.flatMap prV)) (hbase : base ≤ w.heap.size) (hn : rs.length < 4611686018427387904) :
    Calls Tryd.prog 27 #[.slice (some ⟨g, 0, none⟩) rs.length cap, .func (.func 28) #[] #[]] w (SpPost2 base g rs w) := by
  have hlt := (h.lt g rfl)
  have eg : ∀ args w, (callFunc 28 args).run Tryd.prog w = .ok (.enter 28 args) w := enters_of Tryd.func28 (by kernel_rfl) rfl
  have hH := holds_prs h
  have hcon := AnyQ.slices_SortFunc Tryd.laysSortP 2 Tryd.isAgg43 Tryd.sizeOf43 prV prV_two prV_one cfP swo_pr 28 #[] g 0 cap rs.toArray w eg (cmp_lays_pr g 0 rs.toArray.size w) hH hlt.2 (by simpa using hn)
  change Calls Tryd.prog 27 _ _ _ at hcon
  have hsz : rs.toArray.size = rs.length := by simp
  rw [hsz] at hcon
  refine hcon.mono ?_
  rintro e w' ⟨rfl, d', n, os, hp, hs, rfl⟩
  obtain ⟨hp1, _, hp3⟩ := hp
  have hd : d'.size = rs.length := by rw [hp1, hsz]
  have hx1 : d'.extract 0 rs.length = d' := by rw [← hd]; simp
  have hx2 : rs.toArray.extract 0 rs.length = rs.toArray := by simp
  rw [hx1, hx2] at hp3
  have hK := holdsK_sortWorldK prV 2 w g 0 n rs.toArray d' os hlt.2 hH (by rw [hd, hsz])
  refine ⟨rfl, d'.toList, by simpa using hp3, ?_, fun j u hu => ?_, ?_, ?_, grown_prs d'⟩
  · rw [List.pairwise_iff_getElem]
    intro i j hi hj hij
    simp only [Array.length_toList] at hi hj
    have := hs i j (Nat.zero_le _) hij (by omega)
    rw [lt_pr, decide_eq_false_iff_not, getElem!_pos d' j hj, getElem!_pos d' i hi] at this
    simp only [Array.getElem_toList]
    omega
  · have hl : (d'.toList.flatMap prV).length = d'.size * 2 := by rw [fl2_len prV prV_two]; simp
    have hj : j < d'.size * 2 := by
      rcases Nat.lt_or_ge j (d'.size * 2) with h1 | h1
      · exact h1
      · rw [List.getElem?_eq_none (by omega)] at hu; cases hu
    have h1 := (hK j (by rw [Go.Sort.size_flatK]; exact hj)).1
    have h2 := fl2_get d'.toList j (by simpa using hj)
    rw [hu] at h2
    rw [Nat.zero_add] at h1
    rw [h1, ← h2]
    rfl
  · exact (grown_prs (os := os) (n := n) d').size
  · exact (Below.refl base w).grown (grown_prs d') hbase fun k hk => by injection hk with hk; omega
end Go.Proofs.YtpnjandlpbjddabDoor

/- Contract: wansung.pieces: the rows, but for syllables, as a table's pieces; no condition. -/
set_option maxRecDepth 100000
set_option maxHeartbeats 1000000
namespace Go.Proofs.YtpnjandlpbjddabDoor
open Go Go.RowKit

theorem piece_info : (Tryd.prog.info? 46).map (fun i => (i.zero, i.size, i.bytes)) = some (some (.agg #[.int .i64 0, .int .i32 0, .int .i64 0, .string ⟨#[]⟩]), 4, 40) := by kernel_rfl
theorem new_cells (w : World) (cs : List Value) (T : TypeId) : ∀ j u, cs[j]? = some u → (w.alloc (.cells cs.toArray T)).cell? ((⟨w.heap.size, 0, none⟩ : Addr).add j) = some u := by
  intro j u hu
  rw [addr_eq rfl]
  show (w.alloc _).cell? ⟨w.heap.size, 0 + j, none⟩ = _
  rw [Nat.zero_add, cell_of_row _ w.heap.size j _ T (0, 0) (heap_alloc_new w _)]
  simpa using hu
section
variable {ops : Array Oper} {rest : List Oper} {o : Oper} {a : Act} {Q : Exit → Act → World → Prop}
/-- A piece behind a row of pieces of the call's own. -/
theorem app_pc (hgd : o.guard = none) (s x : Operand) (ho : o.op = .call { callee := .builtin .append, args := #[s, x], argTypes := #[59, 59] }) (base : Nat) (v : Value) (L : List Pce) (hs : a.eval s = v) (W : World) (p q n : Int)
    (hown : W.ownsRow base 46 4 v L.length (L.flatMap pV)) (hbase : base ≤ W.heap.size) (hlen : L.length ≤ 16777216) (hx : a.eval x = .slice (some ⟨W.heap.size, 0, none⟩) 1 1)
    (h : ∀ v' w', Hid (w'.ownsRow base 46 4 v' (L ++ [sqP p q n]).length ((L ++ [sqP p q n]).flatMap pV)) → Below base W w' → W.grownBy w' v.ownBlock → wpList Tryd.prog ops Q rest (a.put o.dst v') w') :
    wpList Tryd.prog ops Q (o :: rest) a (W.alloc (.cells #[.int .i64 p, .int .i32 q, .int .i64 n, .string ⟨#[]⟩] 46)) := by
  obtain ⟨i0, hi, iz0, iz1, iz2⟩ := info_parts piece_info
  refine wpList_append_own _ hgd s x 59 ho base 46 i0 _ 4 40 Tryd.underlying59 hi iz0 iz1 iz2 rfl (by decide) v L.length _ hs (hown.alloc _) ⟨W.heap.size, 0, none⟩ 1 1 [.int .i64 p, .int .i32 q, .int .i64 n, .string ⟨#[]⟩] hx rfl (new_cells W [.int .i64 p, .int .i32 q, .int .i64 n, .string ⟨#[]⟩] _) ?_ (by unfold maxLen; omega) (by omega) (by simp; omega) ?_
  · intro u hu; simp only [List.mem_cons, List.not_mem_nil, or_false] at hu; rcases hu with rfl | rfl | rfl | rfl <;> rfl
  · intro v6 w6 hown6 hg6 _
    refine h v6 w6 (Lib.hid ?_) (below_grownOwn ((Below.refl _ W).alloc hbase _) (hown.alloc _) hg6 (by simp; omega) (Nat.le_refl _)) ⟨hg6.os, hg6.tape, hg6.output, by have := hg6.size; simp at this; omega, fun k hk hc => (hg6.block k (by simp; omega) hc).trans (Below.heap_alloc _ _ _ hk)⟩
    rw [List.flatMap_append, List.length_append]
    simpa [pV, sqP] using hown6
end
def PwRel (w0 : World) (v1 v2 : Value) (wr : World) : Prop := ∃ n : Nat, n ≤ 6 ∧ v2 = .int .i64 ((161 + n : Nat) : Int) ∧ wr.ownsRow w0.heap.size 46 4 v1 (wP1 n).length ((wP1 n).flatMap pV) ∧ Below w0.heap.size w0 wr
def PxRel (n : Nat) (l : Int) (w0 : World) (v1 i : Value) (wr : World) : Prop := ∃ j : Nat, j ≤ (listW l).length ∧ i = .int .i64 j ∧ wr.ownsRow w0.heap.size 46 4 v1 (wP1 n ++ (lsP l 0 (listW l)).take j).length ((wP1 n ++ (lsP l 0 (listW l)).take j).flatMap pV) ∧ Below w0.heap.size w0 wr
def PyRel (w0 : World) (bk : Nat) (v1 i : Value) (wr : World) : Prop := ∃ j : Nat, j ≤ 19 ∧ i = .int .i64 j ∧ SpAt wr bk ∧ wr.ownsRow w0.heap.size 46 4 v1 (wP1 6 ++ (SPN.take j).map fun s => sqP s.1 s.2.1 s.2.2).length ((wP1 6 ++ (SPN.take j).map fun s => sqP s.1 s.2.1 s.2.2).flatMap pV) ∧ Below w0.heap.size w0 wr
def WpPost (w0 : World) (e : Ending) (w' : World) : Prop := ∃ A c, e = .returned (.slice A wP.length c) ∧ wP.length ≤ c ∧ PcsL w' w'.heap.size A wP ∧ Below w0.heap.size w0 w'
theorem wP1_le : ((List.range 7).all fun n => decide ((wP1 n).length ≤ 300)) = true := by decide +kernel
theorem listW_le : (leads6.all fun l => decide ((listW l).length ≤ 94 ∧ (listW l).all fun p => decide (0 ≤ p ∧ p < 65536))) = true := by decide +kernel
theorem lead_at {n : Nat} (h : n < 6) : leads6[n]? = some (161 + (n : Int)) := by
  obtain rfl | rfl | rfl | rfl | rfl | rfl : n = 0 ∨ n = 1 ∨ n = 2 ∨ n = 3 ∨ n = 4 ∨ n = 5 := by omega
  all_goals rfl
/-- The spans stand while a row of pieces grows. -/
theorem sp_grown {w w' : World} {bk base : Nat} {v : Value} {M : List Pce} (h : SpAt w bk) (hown : w.ownsRow base 46 4 v (wP1 6 ++ M).length ((wP1 6 ++ M).flatMap pV)) (hg : w.grownBy w' v.ownBlock) : SpAt w' bk := by
  have hne : some bk ≠ v.ownBlock := fun e => by
    have h3 : ((wP1 6 ++ M).flatMap pV)[3]? = some (.string ⟨#[]⟩) := rfl
    have h1 := hown.cells e.symm 3 _ h3
    have h2 := (h 1 (by omega)).1
    rw [show (⟨bk, 0, none⟩ : Addr).add 3 = ⟨bk, 1 * 3, none⟩ from rfl, h2] at h1
    cases h1
  intro k hk
  obtain ⟨a, b, c⟩ := h k hk
  have hl := World.block_lt_of_cell? _ _ a
  have hb := hg.block bk hl hne
  exact ⟨(World.cell?_of_block (a := ⟨bk, _, none⟩) hb).trans a, (World.cell?_of_block (a := ⟨bk, _, none⟩) hb).trans b, (World.cell?_of_block (a := ⟨bk, _, none⟩) hb).trans c⟩
theorem span_take {j : Nat} (h : j < 19) : (SPN.take (j + 1)).map (fun s => sqP s.1 s.2.1 s.2.2) = (SPN.take j).map (fun s => sqP s.1 s.2.1 s.2.2) ++ [sqP (spC j) (spT j) (spN j)] := by
  have h2 : SPN[j]? = some (SPN.getD j (0, 0, 0)) := by rw [List.getD_eq_getElem?_getD, List.getElem?_eq_getElem (show j < SPN.length from h)]; rfl
  rw [List.take_add_one, h2, List.map_append]; rfl
theorem Pieces_any (w : World) : Calls Tryd.prog 26 #[] w (WpPost w) := by
  have HP : Hid (∀ A c w', wP.length ≤ c → PcsL w' w'.heap.size A wP → Below w.heap.size w w' → WpPost w (.returned (.slice A wP.length c)) w') := Lib.hid fun A c w' h1 h2 h3 => ⟨A, c, rfl, h1, h2, h3⟩
  generalize WpPost w = P at *
  go_enter Tryd.func26, Tryd.ntmps26
  go_wp2_with fail
  go_loopw [1, 2] (fun v1 v2 wr => PwRel w v1 v2 wr) (fun _ v2 _ => 170 - (intOf v2).toNat)
  case atStart => exact ⟨0, by omega, rfl, ⟨rfl, .inl ⟨rfl, rfl⟩⟩, Below.refl _ _⟩
  case round =>
    obtain ⟨n, hn, rfl, hown, hb⟩ := hrel
    have hzr := hb.size
    by_cases hlt : n < 6
    · have hlt' : ((161 + n : Nat) : Int) ≤ 166 := by omega
      have hl6 := lead_at hlt
      have hle1 := of_decide_eq_true (List.all_eq_true.1 wP1_le n (List.mem_range.2 (by omega)))
      obtain ⟨hle2, hps⟩ := of_decide_eq_true (List.all_eq_true.1 listW_le _ (List.mem_of_getElem? hl6))
      have Hsuc := Lib.hid (wP1_succ hl6)
      have hli := fun W => Listed_any (161 + (n : Int)) (by omega) W
      obtain ⟨hx, hxs⟩ := hex_list (161 + (n : Int))
      have hwa := fun (j : Nat) (hj : j < (listW (161 + (n : Int))).length) W => WAt_any _ _ hx j (by omega) (by omega) W
      have hsz := hx.size
      have hq : ((wB (161 + (n : Int))).size : Int) / 5 = ((listW (161 + (n : Int))).length : Int) := by omega
      have hb1 : ((wB (161 + (n : Int))).size : Int) ≤ 1000 := by omega
      have Hps := Lib.hid hps
      have HO := Lib.hid hown
      clear hsz hx hxs hl6 hps hown
      have hc161 : ((161 + n : Nat) : Int) = 161 + (n : Int) := by omega
      rw [hc161] at hlt' ⊢
      generalize hl : (161 + (n : Int)) = l at *
      have hl0 : 161 ≤ l ∧ l ≤ 166 := by omega
      have Hl := Lib.hid hl
      clear hl hc161
      generalize wB l = s at *
      go_wp2_with (go_at_call 46; refine (hli _).mono ?_; rintro e w1 ⟨rfl, hb2⟩; have hown2 := own_below HO.out hb2; have hb3 := hb.trans (hb2.mono hzr); have hz3 := hb3.size)
      go_loopw [1, 22] (fun v1 i wx => PxRel n l w v1 i wx) (fun _ i _ => (listW l).length - (intOf i).toNat)
      case atStart => exact ⟨0, by omega, rfl, by simpa using hown2, hb3⟩
      case round =>
        obtain ⟨j, hj, rfl, hownj, hbj⟩ := hrel
        have hzj := hbj.size
        have HOj := Lib.hid hownj
        clear hownj
        by_cases hjl : j < (listW l).length
        · have hjl' : (j : Int) < ((listW l).length : Int) := by omega
          have hpj : (listW l)[j]? = some ((listW l).getD j 0) := by rw [List.getD_eq_getElem?_getD, List.getElem?_eq_getElem hjl]; rfl
          have htk := lsP_take l (listW l) 0 j _ hpj
          rw [Nat.zero_add] at htk
          have Htk := Lib.hid htk
          clear htk
          have hwj := fun W => hwa j hjl W
          rw [if_pos (by omega), show ((j : Int)).toNat = j by omega, show decide (0 ≤ (j : Int) ∧ (j : Int) < ((listW l).length : Int)) = true by simp; omega] at hwj
          have hll : (wP1 n ++ (lsP l 0 (listW l)).take j).length ≤ 500 := by rw [List.length_append, List.length_take]; omega
          have hse := fun W p => Seq_any (l * 256 + 161 + j) p 1 W
          generalize (listW l).getD j 0 = p at *
          clear hpj
          go_wp2_with (first
            | (go_at_call 47; refine (hwj _).mono ?_; rintro e w2 ⟨rfl, hb4⟩; have hz4 := hb4.size; have hown4 := own_below HOj.out hb4)
            | (go_at_call 16; refine (hse _ _).mono ?_; rintro e w5 ⟨rfl, hb5⟩; have hz5 := hb5.size; have hown5 := own_below hown4 hb5)
            | (at_builtin; refine app_pc rfl _ _ rfl w.heap.size u1 (wP1 n ++ (lsP l 0 (listW l)).take j) rfl w5 (l * 256 + 161 + j) p 1 hown5 (by omega) (by omega) rfl ?_; intro v6 w6 HO6 hb6 _; have HB6 := Lib.hid (((hbj.trans (hb4.mono hzj)).trans (hb5.mono (by omega))).trans hb6)))
          refine ⟨⟨j + 1, by omega, by simp, ?_, HB6.out⟩, by simp [intOf]; omega⟩
          rw [Htk.out, ← List.append_assoc]
          exact HO6.out
        · obtain rfl : j = (listW l).length := by omega
          have hjl' : ¬ (((listW l).length : Int) < ((listW l).length : Int)) := by omega
          have ho := HOj.out
          rw [List.take_of_length_le (by rw [lsP_len]; exact Nat.le_refl _), ← Hsuc.out] at ho
          have HO7 := Lib.hid ho
          clear ho
          go_wp2_with fail
          refine ⟨⟨n + 1, by omega, by rw [← Hl.out]; congr 1, HO7.out, hbj⟩, by simp [intOf]; omega⟩
    · obtain rfl : n = 6 := by omega
      have hlt' : ¬ (((161 + 6 : Nat) : Int) ≤ 166) := by omega
      have HO := Lib.hid hown
      clear hown
      go_wp2_with (go_at_call 48; refine (Spans_any _).mono ?_; rintro e w1 ⟨bk, rfl, hsp, hb2⟩; have hown2 := own_below HO.out hb2; have hb3 := hb.trans (hb2.mono hzr); have hz3 := hb3.size)
      go_loopw [1, 42] (fun v1 i wx => PyRel w bk v1 i wx) (fun _ i _ => 19 - (intOf i).toNat)
      case atStart => exact ⟨0, by omega, rfl, hsp, by simpa using hown2, hb3⟩
      case round =>
        obtain ⟨j, hj, rfl, hspj, hownj, hbj⟩ := hrel
        have hzj := hbj.size
        have HOj := Lib.hid hownj
        have hlk : (wP1 6).length ≤ 300 := of_decide_eq_true (List.all_eq_true.1 wP1_le 6 (List.mem_range.2 (by omega)))
        clear hownj
        by_cases hjl : j < 19
        · have hjl' : (j : Int) < 19 := by omega
          obtain ⟨y0, y1, y2⟩ := hspj j hjl
          have hll : (wP1 6 ++ (SPN.take j).map fun s => sqP s.1 s.2.1 s.2.2).length ≤ 500 := by rw [List.length_append, List.length_map, List.length_take]; omega
          have Htk := Lib.hid (span_take hjl)
          have hse := fun W => Seq_any (spC j) (spT j) (spN j) W
          generalize spC j = a1 at *
          generalize spT j = a2 at *
          generalize spN j = a3 at *
          have hbx : Below wr.heap.size wr (wr.alloc (.cells #[.int .i64 a1, .int .i32 a2, .int .i64 a3] 89)) := (Below.refl _ _).alloc (Nat.le_refl _) _
          go_wp2_with (first
            | (go_at_call 16; refine (hse _).mono ?_; rintro e w5 ⟨rfl, hb5⟩; have hz5 := hb5.size; have hown5 := own_below (own_below HOj.out hbx) hb5)
            | (at_builtin; refine app_pc rfl _ _ rfl w.heap.size u1 (wP1 6 ++ (SPN.take j).map fun s => sqP s.1 s.2.1 s.2.2) rfl w5 a1 a2 a3 hown5 (by simp at hz5; omega) (by omega) rfl ?_; intro v6 w6 HO6 hb6 hg6; have Hg6 := Lib.hid hg6; clear hg6; have HB6 := Lib.hid (((hbj.trans (hbx.mono hzj)).trans (hb5.mono (by simp; omega))).trans hb6)))
          have HSP6 := Lib.hid (sp_grown (hspj.keep (bch hbx hb5) (Nat.le_refl _)) hown5 Hg6.out)
          refine ⟨⟨j + 1, by omega, by simp, HSP6.out, ?_, HB6.out⟩, by simp [intOf]; omega⟩
          rw [Htk.out, ← List.append_assoc]
          exact HO6.out
        · obtain rfl : j = 19 := by omega
          have ho := HOj.out
          rw [show SPN.take 19 = SPN from rfl] at ho
          have ho2 : wr.ownsRow w.heap.size 46 4 u1 wP.length (wP.flatMap pV) := ho
          obtain ⟨A, cp, rfl, hcp, hr⟩ := Reads.of_own ho2
          have HR := Lib.hid hr
          have Hcp := Lib.hid hcp
          have Hf : Hid (P (.returned (.slice A wP.length cp)) wr) := Lib.hid (HP.out A cp wr hcp hr hbj)
          clear hr ho ho2 hcp
          generalize wP.length = wl at *
          go_wp2_with fail
          exact Hf.out
end Go.Proofs.YtpnjandlpbjddabDoor

/- Contract: wansung.Rows: the signs of the rows, by rising codes; condition: the tables of unicode/utf8 are laid. -/
set_option maxRecDepth 100000
set_option maxHeartbeats 1000000
namespace Go.Proofs.YtpnjandlpbjddabDoor
open Go Go.RowKit

theorem New_gen {l : List Pce} {M : List Pr} (hm : madeF [] l 0 = .inl M) (hl : l.length ≤ 4096) (hok : ∀ p ∈ l, PceOk p ∧ p.2.2.2.1.size ≤ 1000000) (A : Option Addr) (c : Nat) (W : World) (hT : Tabs W) (hA : PcsL W W.heap.size A l) :
    Calls Tryd.prog 25 #[.slice A l.length c] W (NcPost M W) := by
  refine (New_tb l A c hl hok W hT hA).mono ?_
  rintro e w' ⟨A2, c2, rs, rfl, h1, h2, h3, h4, hb⟩
  unfold ftE ftA mdL at *
  rw [hm] at h4 ⊢
  exact ⟨A2, c2, rs, rfl, h1, h2, h3, h4, hb⟩
def WrPost (w0 : World) (e : Ending) (w' : World) : Prop := ∃ A c, e = .returned (.slice A rowsW.length c) ∧ rowsW.length ≤ c ∧ PrsL w' w'.heap.size A rowsW ∧ Below w0.heap.size w0 w'
theorem Rows_any (w : World) (hT : Tabs w) : Calls Tryd.prog 12 #[] w (WrPost w) := by
  have HP : Hid (∀ A c w', rowsW.length ≤ c → PrsL w' w'.heap.size A rowsW → Below w.heap.size w w' → WrPost w (.returned (.slice A rowsW.length c)) w') := Lib.hid fun A c w' h1 h2 h3 => ⟨A, c, rfl, h1, h2, h3⟩
  generalize WrPost w = P at *
  have hpc := fun W => Pieces_any W
  unfold WpPost at hpc
  have Hnt := Lib.hid (New_gen w_made (by rw [wP_len]; decide) wP_ok)
  unfold NcPost at Hnt
  have Hsrt := Lib.hid rowsW_srt
  have hlen := rows_len
  have hl1 : 0 < rowsW.length := by omega
  have hl2 : rowsW.length < 4611686018427387904 := by omega
  clear hlen
  have Hl1 := Lib.hid hl1
  have Hl2 := Lib.hid hl2
  clear hl1 hl2
  generalize rowsW = L at *
  generalize wP = WP at *
  go_enter Tryd.func12, Tryd.ntmps12
  go_wp2_with fail
  refine (hpc _).mono ?_
  rintro e w1 ⟨A1, c1, rfl, hc1, hp1, hb1⟩
  have hT1 := Tabs_below hT hb1 (Nat.le_refl _)
  have HP1 := Lib.hid hp1
  have HB1 := Lib.hid hb1
  clear hp1 hb1
  go_wp2_with fail
  refine (Hnt.out A1 c1 _ hT1 HP1.out).mono ?_
  rintro e w3 ⟨A3, c3, rs, rfl, h1, h2, h3, h4, hb3⟩
  have HB3 := Lib.hid (HB1.out.trans (hb3.mono HB1.out.size))
  have H3 := Lib.hid h3
  have H4 := Lib.hid h4
  have hbx : Below w3.heap.size w3 ((w3.alloc (.cells #[.slice A3 rs.length c3] 24)).alloc (.cells #[.int .i64 0, .int .i64 0] 33)) := ((Below.refl _ _).alloc (Nat.le_refl _) _).alloc (by simp) _
  have hH := tb_a2 H3.out (.cells #[.slice A3 rs.length c3] 24) (.cells #[.int .i64 0, .int .i64 0] 33)
  have hpo := Pairs_own A3 c3 rs (by omega) _ hH
  rw [show (rs.map (·.1)).flatMap prs = L from H4.out] at hpo
  unfold PoPost at hpo
  have HB4 := Lib.hid (HB3.out.trans (hbx.mono HB3.out.size))
  clear h3 h4 hb3 hH hbx
  go_wp2_with fail
  refine hpo.mono ?_
  clear hpo
  rintro e w4 ⟨v, rfl, hown, hb4⟩
  obtain ⟨g, cp, rfl⟩ := own_some hown Hl1.out
  have hcp : L.length ≤ cp := by
    obtain ⟨A9, c9, e9, h9, _⟩ := Reads.of_own hown
    injection e9 with _ _ e9; omega
  have hg := hown.lt g rfl
  have HB5 := Lib.hid (HB4.out.trans (hb4.mono HB4.out.size))
  have HO := Lib.hid hown
  have hso := SortP_any _ g cp L w4 hown (Nat.le_trans (Nat.le_of_lt_succ (Nat.lt_succ_of_le hg.1)) (Nat.le_of_lt hg.2)) Hl2.out
  have hbs := Nat.le_trans HB4.out.size (Nat.le_refl _)
  unfold SpPost2 at hso
  clear hown hb4
  go_wp2_with fail
  refine hso.mono ?_
  clear hso
  rintro e w5 ⟨rfl, rs', hp, hpw, hcells, hsz5, hb5, hg5⟩
  have hrs := perm_srt Hsrt.out hp hpw
  subst hrs
  have hR : PrsL w5 w5.heap.size (some ⟨g, 0, none⟩) rs' := ⟨HO.out.1, fun _ => ⟨_, rfl, Nat.lt_of_lt_of_le hg.2 hsz5, fun j u hu => by
    rw [show (⟨g, 0, none⟩ : Addr).add j = ⟨g, j, none⟩ by unfold Addr.add; split <;> simp_all]
    exact hcells j u hu⟩⟩
  have Hf := Lib.hid (HP.out (some ⟨g, 0, none⟩) cp w5 hcp hR (HB5.out.trans (hb5.mono hbs)))
  clear hcells hR hp hpw HP
  go_wp2_with fail
  exact Hf.out
end Go.Proofs.YtpnjandlpbjddabDoor

/- WansungRows holds; conditions: the tables of unicode/utf8 and math/bits are laid, the cell of the library's MaxLen holds some int. -/
set_option maxRecDepth 100000
set_option maxHeartbeats 1000000
namespace Go.Proofs.YtpnjandlpbjddabDoor
open Go Go.RowKit

def WkAt (t : Nat) (S rest : List Pr) : Prop := rowsW = S ++ rest ∧ wk (cellsW.drop t) rest (S.map fun x => x.2.toNat).reverse = true
def LoRel (base : Nat) (W1 : World) (v2 v3 : Value) (wr : World) : Prop := ∃ (i : Nat) (S rest : List Pr), i ≤ 12 ∧ v3 = .int .i64 (161 + (i : Int)) ∧ v2 = .int .i64 S.length ∧ Hid (WkAt (94 * i) S rest) ∧ Below base W1 wr
def LiRel (i base : Nat) (W1 : World) (v2 v4 : Value) (wr : World) : Prop := ∃ (j : Nat) (S rest : List Pr), j ≤ 94 ∧ v4 = .int .i64 (161 + (j : Int)) ∧ v2 = .int .i64 S.length ∧ Hid (WkAt (94 * i + j) S rest) ∧ Below base W1 wr
def LxRel (n : Nat) (base : Nat) (W1 : World) (v : Value) (wr : World) : Prop := ∃ m : Nat, m ≤ n ∧ v = .int .i64 m ∧ Below base W1 wr
theorem WkAt.le {t : Nat} {S rest : List Pr} (h : WkAt t S rest) : S.length ≤ 724 := by
  have := congrArg List.length h.1
  rw [rows_len, List.length_append] at this
  omega
theorem WkAt.skip {i j : Nat} (hi : i < 12) (hj : j < 94) {S rest : List Pr} (h : WkAt (94 * i + j) S rest) (h0 : rowZ (161 + (i : Int)) (161 + (j : Int)) = 0) : WkAt (94 * i + (j + 1)) S rest := by
  rw [show (161 + (i : Int)) = ((161 + i : Nat) : Int) by omega, show (161 + (j : Int)) = ((161 + j : Nat) : Int) by omega] at *
  have h2 := h.2
  rw [cells_at hi hj] at h2
  exact ⟨h.1, wk_skip h2 h0⟩
theorem WkAt.take {i j : Nat} (hi : i < 12) (hj : j < 94) {S rest : List Pr} (h : WkAt (94 * i + j) S rest) (h0 : rowZ (161 + (i : Int)) (161 + (j : Int)) ≠ 0) :
    rowsW[S.length]? = some ((161 + i) * 256 + (161 + j), rowZ (161 + (i : Int)) (161 + (j : Int))) ∧ (∀ m x, m < S.length → rowsW[m]? = some x → x.2 ≠ rowZ (161 + (i : Int)) (161 + (j : Int))) ∧ ∃ r, WkAt (94 * i + (j + 1)) (S ++ [((161 + i) * 256 + (161 + j), rowZ (161 + (i : Int)) (161 + (j : Int)))]) r := by
  rw [show (161 + (i : Int)) = ((161 + i : Nat) : Int) by omega, show (161 + (j : Int)) = ((161 + j : Nat) : Int) by omega] at *
  have h2 := h.2
  rw [cells_at hi hj] at h2
  obtain ⟨r, rfl, h3, h4⟩ := wk_take h2 h0
  refine ⟨by rw [h.1, List.getElem?_append_right (Nat.le_refl _), Nat.sub_self]; rfl, fun m x hm hx e => ?_, r, by rw [h.1]; simp, by rw [List.map_append, List.reverse_append]; exact h4⟩
  rw [h.1, List.getElem?_append_left hm] at hx
  exact h3 x.2.toNat (List.mem_reverse.2 (List.mem_map.2 ⟨x, List.mem_of_getElem? hx, rfl⟩)) (by rw [e])
theorem WkAt.end_ {S rest : List Pr} (h : WkAt 1128 S rest) : S.length = 724 := by
  have h2 := h.2
  rw [List.drop_of_length_le (by rw [cells_len]; exact Nat.le_refl _)] at h2
  unfold wk at h2
  have := congrArg List.length h.1
  rw [rows_len, List.length_append, List.isEmpty_iff.1 h2] at this
  simpa using this.symm
theorem WkAt.zero : WkAt 0 [] rowsW := ⟨rfl, wk_all⟩
theorem row_rng : ((List.range 12).all fun i => (List.range 94).all fun j => decide (0 ≤ rowZ (161 + (i : Int)) (161 + (j : Int)) ∧ rowZ (161 + (i : Int)) (161 + (j : Int)) < 65536)) = true := by decide +kernel
theorem WansungRows_law (w : World) (hT : Tabs w) (hD : DB w) (hm : ML w) :
    Calls Tryd.prog 5 #[] w fun e w' => e = .returned (.bool true) ∧ Below w.heap.size w w' := by
  have HP : Hid (∀ w', Below w.heap.size w w' → (fun e w' => e = Ending.returned (.bool true) ∧ Below w.heap.size w w') (.returned (.bool true)) w') := Lib.hid fun w' hb => ⟨rfl, hb⟩
  generalize (fun (e : Ending) (w' : World) => e = Ending.returned (.bool true) ∧ Below w.heap.size w w') = P at *
  have hro := fun W h => Rows_any W h
  unfold WrPost at hro
  have Hro := Lib.hid hro
  have HD := Lib.hid hD
  have HM := Lib.hid hm
  clear hro hD hm
  go_enter Tryd.func5, Tryd.ntmps5
  go_wp2_with fail
  refine (Hro.out _ hT).mono ?_
  rintro e w1 ⟨A, c, rfl, hc, hp, hb1⟩
  rw [rows_len] at hc
  have HR := Lib.hid hp
  have HB1 := Lib.hid hb1
  clear hp hb1
  rw [rows_len]
  go_wp2_with fail
  go_loopw [2, 3] (fun v2 v3 wr => LoRel w1.heap.size w1 v2 v3 wr) (fun _ v3 _ => 200 - (intOf v3).toNat)
  case atStart => exact ⟨0, [], rowsW, by omega, rfl, rfl, Lib.hid WkAt.zero, Below.refl _ _⟩
  case round =>
    obtain ⟨i, S, rest, hi, rfl, rfl, hwk, hb⟩ := hrel
    have hzr := hb.size
    have hS := hwk.out.le
    by_cases hlt : i < 12
    · have hlt' : (161 + (i : Int)) ≤ 172 := by omega
      have hltd : decide ((161 + (i : Int)) ≤ 172) = true := by simp; omega
      go_wp2_with fail
      go_loopw [2, 4] (fun v2 v4 wx => LiRel i w1.heap.size w1 v2 v4 wx) (fun _ v4 _ => 300 - (intOf v4).toNat)
      case atStart => exact ⟨0, S, rest, by omega, rfl, rfl, hwk, hb⟩
      case round =>
        obtain ⟨j, S2, rest2, hj, rfl, rfl, hwk2, hb2⟩ := hrel
        have hzr2 := hb2.size
        have hS2 := hwk2.out.le
        by_cases hjl : j < 94
        · have hjl' : (161 + (j : Int)) ≤ 254 := by omega
          have hjld : decide ((161 + (j : Int)) ≤ 254) = true := by simp; omega
          have hrr := fun W => RRow_any (161 + (i : Int)) (161 + (j : Int)) (by omega) W
          have hrg := of_decide_eq_true (List.all_eq_true.1 (List.all_eq_true.1 row_rng i (List.mem_range.2 hlt)) j (List.mem_range.2 hjl))
          by_cases h0 : rowZ (161 + (i : Int)) (161 + (j : Int)) = 0
          · have Hnx := Lib.hid (Lib.hid (hwk2.out.skip hlt hjl h0))
            rw [h0] at hrr
            clear h0 hrg
            go_wp2_with (go_at_call 13; refine (hrr _).mono ?_; rintro e w3 ⟨rfl, hb3⟩)
            have hbz := (hb2.trans (hb3.mono hzr2))
            refine ⟨⟨j + 1, S2, rest2, by omega, by simp; omega, rfl, Hnx.out, hbz⟩, by simp [intOf]; omega⟩
          · obtain ⟨hel, hdis, r, hnx⟩ := hwk2.out.take hlt hjl h0
            have Hnx := Lib.hid (Lib.hid hnx)
            have Hdis := Lib.hid hdis
            have hS3 : S2.length < 724 := by
              have := (List.getElem?_eq_some_iff.1 hel).1
              rw [rows_len] at this; exact this
            have hS3' : (S2.length : Int) < 724 := by omega
            have hk0 : decide ((724 : Int) ≤ S2.length) = false := by simp; omega
            obtain ⟨ad, rfl, hadb, y0, y1, _⟩ := HR.out.pair hel
            have hy0 : ((((161 + i) * 256 + (161 + j) : Nat)) : Int) = (161 + (i : Int)) * 256 + (161 + (j : Int)) := by omega
            simp only [hy0] at y0
            have hp0 : (rowZ (161 + (i : Int)) (161 + (j : Int)) == 0) = false := by rw [beq_eq_false_iff_ne]; exact h0
            have Hel := Lib.hid hel
            clear hnx hdis h0 hel hy0
            generalize rowZ (161 + (i : Int)) (161 + (j : Int)) = p at *
            have hp0' : p ≠ 0 := by intro e; rw [e] at hp0; cases hp0
            have hcd : (161 + (i : Int)) * 256 + (161 + (j : Int)) ≤ 70000 := by omega
            go_wp2_with (go_at_call 13; refine (hrr _).mono ?_; rintro e w3 ⟨rfl, hb3⟩; have z0 := ((hb2.trans (hb3.mono hzr2)).cell (p := ad.add (S2.length * 2)) (by rw [block_of_add]; exact hadb)).trans y0; have z1 := ((hb2.trans (hb3.mono hzr2)).cell (p := ⟨(ad.add (S2.length * 2)).block, (ad.add (S2.length * 2)).off + 1, none⟩) (by show (ad.add (S2.length * 2)).block < _; rw [block_of_add]; exact hadb)).trans y1; have hb4 := hb2.trans (hb3.mono hzr2); have hz4 := hb4.size)
            go_loopw [51] (fun v wy => LxRel S2.length w1.heap.size w1 v wy) (fun v _ => S2.length - (intOf v).toNat)
            case atStart => exact ⟨0, by omega, rfl, hb4⟩
            case round =>
              obtain ⟨m, hm, rfl, hb5⟩ := hrel
              have hz5 := hb5.size
              by_cases hml : m < S2.length
              · have hml' : (m : Int) < S2.length := by omega
                obtain ⟨x, hx⟩ : ∃ x, rowsW[m]? = some x := ⟨_, List.getElem?_eq_getElem (by rw [rows_len]; omega)⟩
                obtain ⟨ad', hade, _, x0, x1, _⟩ := HR.out.pair hx
                injection hade with hade
                subst hade
                have hne : (x.2 == p) = false := by rw [beq_eq_false_iff_ne]; exact Hdis.out m x hml hx
                have w0 := (hb5.cell (p := ad.add (m * 2)) (by rw [block_of_add]; exact hadb)).trans x0
                have w1' := (hb5.cell (p := ⟨(ad.add (m * 2)).block, (ad.add (m * 2)).off + 1, none⟩) (by show (ad.add (m * 2)).block < _; rw [block_of_add]; exact hadb)).trans x1
                have hb6 := hb5.alloc hz5 (.cells #[.int .i64 (x.1 : Int), .int .i32 x.2] 43)
                clear hx x0 x1
                go_wp2_with fail
                refine ⟨⟨m + 1, by omega, by simp, hb6⟩, by simp [intOf]; omega⟩
              · obtain rfl : m = S2.length := by omega
                have hml' : ¬ ((S2.length : Int) < S2.length) := by omega
                go_wp2_with fail
                refine ⟨⟨j + 1, _, r, by omega, by simp; omega, by rw [List.length_append]; simp, Hnx.out, hb5⟩, by simp [intOf]; omega⟩
        · obtain rfl : j = 94 := by omega
          have hjl' : ¬ ((161 + ((94 : Nat) : Int)) ≤ 254) := by omega
          have hjld : decide ((161 + ((94 : Nat) : Int)) ≤ 254) = false := by simp
          go_wp2_with fail
          refine ⟨⟨i + 1, S2, rest2, by omega, by simp; omega, rfl, hwk2, hb2⟩, by simp [intOf]; omega⟩
    · obtain rfl : i = 12 := by omega
      have hlt' : ¬ ((161 + ((12 : Nat) : Int)) ≤ 172) := by omega
      have h724 : S.length = 724 := hwk.out.end_
      rw [h724]
      clear h724 hS
      have hbw : Below w.heap.size w wr := HB1.out.trans (hb.mono HB1.out.size)
      have haw := sawake wr (DB_below HD.out hbw (Nat.le_refl _)) (ML_below HM.out hbw (Nat.le_refl _))
      go_wp2_with (go_at_call 14; refine haw.mono ?_; rintro e w9 ⟨rfl, hb9⟩)
      exact HP.out _ (hbw.trans (hb9.mono hbw.size))
end Go.Proofs.YtpnjandlpbjddabDoor

/- The card of WansungRows holds: the law returns true for every argument; condition: the tables that its row lists lie as laid. -/
set_option maxRecDepth 100000
set_option maxHeartbeats 1000000
namespace Go.Proofs.YtpnjandlpbjddabDoor
open Go Go.Proofs Go.ChangeShapes Go.WideShapes Go.ChangeAt Go.RowKit

theorem wansungRows_reads (os : Os) {H : Type} (enc : TypeId × Value → H) : ∃ places, DataW.whole enc Tryd.prog ((World.laidAll Tryd.prog os Rows.wansungRowsRow.laid).forCall (fun _ _ => 0) ⟨#[], #[], []⟩).memory Tryd.f5.params.toList Rows.wansungRowsSpec.vars false #[].toList 8 = some ([], [], places) :=
  ⟨[], by kernel_rfl⟩
theorem wansungRows_met (os : Os) : laidMetH Tryd.prog Rows.wansungRowsRow.laid ((World.laidAll Tryd.prog os Rows.wansungRowsRow.laid).forCall (fun _ _ => 0) ⟨#[], #[], []⟩).memory := by
  rw [MakeChecks.laidMetH_plain _ _ _ (by kernel_rfl)]; exact laidMet_laidAll _ (by kernel_rfl) (by kernel_rfl)
theorem wansungRows_witness (os : Os) {H : Type} (enc : TypeId × Value → H) :
    ∃ (w : World) (tape : Tape) (i : Input), w.os = os ∧ (w.forCall tape i).Shaped Tryd.checked.prog ∧ i.vars = [] ∧ Input.okWide Tryd.checked.prog (w.forCall tape i) .any w.heap.size 5 i ∧
      (OpenSpec.ofChange Rows.wansungRowsSpec).preRow enc Tryd.checked.prog Tryd.f5 Rows.wansungRowsRow.domain false Rows.wansungRowsRow.laid (w.forCall tape i).memory i.args ∧ ({} : Assume).holds Tryd.checked.prog (lone (Frame.enter Tryd.checked.prog 5 i.args .normal) [] (w.forCall tape i)) := by
  obtain ⟨places, hx⟩ := wansungRows_reads os enc
  exact witness_row_atRef (enc := enc) (C := Tryd.checked) false (World.laidAll Tryd.prog os Rows.wansungRowsRow.laid) #[] (World.laidAll_os _ _ _) (by kernel_rfl) (by kernel_rfl) (by kernel_rfl)
    (OpenSpec.preRow_of_cond 8 hx (by kernel_rfl) (fun k hk => by cases hk) (by kernel_rfl) (wansungRows_met os))

theorem wansungRows_lifted (os : Os) (started : os.Started) (H : Type) (enc : TypeId × Value → H) (F : Stop.Interp) :
    ReturnsInHanded {} Tryd.checked os 5 .any ((OpenSpec.ofChange Rows.wansungRowsSpec).preRow enc Tryd.prog Tryd.f5 Rows.wansungRowsRow.domain false Rows.wansungRowsRow.laid) (((OpenSpec.ofChange Rows.wansungRowsSpec).at F).post enc Tryd.prog Tryd.f5 false true false false) := by
  refine returnsInHanded_of_row (C := Tryd.checked) (s := OpenSpec.ofChange Rows.wansungRowsSpec) own started (by kernel_rfl) Tryd.func5 (wansungRows_witness os enc) ?_
  intro W base args ds gs before hval0 hW _ _ _ hL0 hsh _
  have hL : laidMetH Tryd.prog Rows.wansungRowsRow.laid W := hL0
  have hT : Tabs W := tabs_of hL (by kernel_rfl) (by simp [Rows.wansungRowsRow]) (by simp [Rows.wansungRowsRow])
  have hD : DB W := db_of hL (by kernel_rfl) (by simp [Rows.wansungRowsRow])
  have hM : ML W := Tryd.laysM143.s1_3 W hsh
  clear hL0 hL
  have hval : ∀ (j : Nat) t v, Tryd.f5.params[j]? = some t → args[j]? = some v → Value.okWide Tryd.prog W .any base t v := hval0
  have hW' : DataW.Whole enc Tryd.prog Tryd.f5.params.toList Rows.wansungRowsSpec.vars false W args.toList ds gs before := hW
  obtain ⟨p, q, hA0, hV, rfl, hfz, hnd⟩ := hW
  have hA : DataW.TrodAll enc Tryd.prog W 0 (fun _ => true) true Tryd.f5.params.toList args.toList ds p := hA0
  rw [Tryd.params5] at hA hval
  have hA1 := hA
  obtain ⟨hargs0, rfl, rfl⟩ := trodAll_nil hA1
  obtain rfl : args = #[] := by simpa using hargs0
  obtain ⟨rfl, rfl⟩ := trodVars_none hV
  clear hA0 hval0
  have fin : ∀ W', Below W.heap.size W W' → ∃ v, Ending.returned (.bool true) = .returned v ∧ ((OpenSpec.ofChange Rows.wansungRowsSpec).at F).post enc Tryd.prog Tryd.f5 false true false false W _ v W' :=
    fun W' hb => ⟨_, rfl, post_true laidOut rfl (by kernel_rfl) (by kernel_rfl) Tryd.underlying4 hW' rfl hb⟩
  clear hW' hfz hnd
  refine (WansungRows_law W hT hD hM).mono ?_
  rintro e W' ⟨rfl, hb⟩
  exact fin W' hb

theorem wansungRows_said : Rows.WansungRowsSaid :=
  OpenClaim.holds_of_cond 5 Tryd.f5 rfl rfl rfl rfl rfl rfl rfl ⟨rfl, rfl, rfl, rfl, rfl⟩ rfl rfl rfl rfl rfl (by kernel_rfl) Tryd.func5 (by kernel_rfl)
    (by as_aux_lemma => exact of_decide_eq_true (by kernel_rfl)) (by as_aux_lemma => unfold Func.isWrapper; first | (rw [if_pos (by decide +kernel)]; kernel_rfl) | (rw [if_neg (by decide +kernel)]; exact ⟨rfl, rfl⟩))
    (fun os started H enc _ F => by rw [OpenClaim.pre_eq_preRow]; exact wansungRows_lifted os started H enc F)

theorem wansungRows_plain (f : FuncId) (fn : Func) (hf : Tryd.pinned.checked.prog.funcNamed "diacritic/diacriticlaw07.WansungRows" = some f) (hfn : Tryd.pinned.checked.prog.funcs[f]? = some fn) :
    false = Tryd.pinned.checked.prog.looks [] ∧ ∀ (j : Nat) t, fn.params[j]? = some t → Tryd.pinned.checked.prog.wantsStandIn t = false := by
  obtain rfl : f = 5 := Option.some.inj ((show Tryd.prog.funcNamed "diacritic/diacriticlaw07.WansungRows" = some 5 by kernel_rfl).symm.trans hf) |>.symm
  obtain rfl : fn = Tryd.f5 := (Option.some.inj (Tryd.func5.symm.trans hfn)).symm
  refine ⟨by kernel_rfl, fun j t ht => ?_⟩
  rw [Tryd.params5] at ht
  have hm : t ∈ [] := by simpa using Array.mem_of_getElem? ht
  have hall : ([].all fun u => !Tryd.prog.wantsStandIn u) = true := by kernel_rfl
  exact (show Tryd.prog.wantsStandIn t = false by simpa using List.all_eq_true.1 hall t hm)

theorem wansungRows_card : Rows.WansungRowsCardSaid :=
  Claim7.holds_tied_plain_at .later [] _ _ _ _ wansungRows_said (fun _ h => by cases h) (by kernel_rfl) (fun _ h => by cases h) wansungRows_row_tie rfl ⟨rfl, rfl⟩ (by kernel_rfl) rfl wansungRows_plain (by kernel_rfl)
#print axioms wansungRows_card
end Go.Proofs.YtpnjandlpbjddabDoor
