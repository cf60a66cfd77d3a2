/- The example that law 04 asks. -/
import Derived.Test.YtpnjandlpbjddabDoorRU
set_option maxRecDepth 100000
set_option maxHeartbeats 4000000
namespace Go.Proofs.YtpnjandlpbjddabDoor
open Go Go.RowKit

theorem pcs_new (w : World) (T : TypeId) (l : List Pce) : PcsL (w.alloc (.cells (l.flatMap pV).toArray T)) (w.heap.size + 1) (some ⟨w.heap.size, 0, none⟩) l := by
  refine ⟨flat4_len pV pV_len l, fun _ => ⟨_, rfl, by simp, fun j u hu => ?_⟩⟩
  have hadd : (⟨w.heap.size, 0, none⟩ : Addr).add j = ⟨w.heap.size, j, none⟩ := by unfold Addr.add; split <;> simp_all
  rw [hadd, cell_of_row _ w.heap.size j _ T (0, 0) (heap_alloc_new w _)]
  simpa using hu
theorem bx22 {w wr : World} {T1 T2 : TypeId} {a b c : Value} (h : Below ((w.alloc (.cells #[a] T1)).alloc (.cells #[b, c] T2)).heap.size ((w.alloc (.cells #[a] T1)).alloc (.cells #[b, c] T2)) wr) :
    wr.cell? ⟨w.heap.size, 0, none⟩ = some a ∧ wr.cell? ⟨w.heap.size + 1, 0, none⟩ = some b ∧ wr.cell? ⟨w.heap.size + 1, 1, none⟩ = some c ∧ w.heap.size + 1 < wr.heap.size := by
  obtain ⟨b1, _, hs⟩ := bx h
  obtain ⟨a1, _, _⟩ := bx (below_a1 h)
  simp only [World.size_alloc] at b1 hs
  exact ⟨a1 0, b1 0, b1 1, hs⟩
def awL : List Pce := [(0, 65, 3, ⟨#[]⟩, some []), (10, 0, 0, ⟨#[120, 121]⟩, some [120, 121])]
def awU : List Pce := [(1, 65, 1, ⟨#[]⟩, some [])]
theorem awL_ok : ∀ p ∈ awL, PceOk p ∧ p.2.2.2.1.size ≤ 1000000 := by
  intro p hp
  simp only [awL, List.mem_cons, List.not_mem_nil, or_false] at hp
  rcases hp with rfl | rfl
  · exact ⟨⟨⟨rfl, by simp⟩, by decide, by decide, by decide⟩, by decide⟩
  · exact ⟨⟨⟨rfl, by decide⟩, by decide, by decide, by decide⟩, by decide⟩
theorem awU_ok : ∀ p ∈ awU, PceOk p ∧ p.2.2.2.1.size ≤ 1000000 := by
  intro p hp
  simp only [awU, List.mem_cons, List.not_mem_nil, or_false] at hp
  rcases hp with rfl
  exact ⟨⟨⟨rfl, by simp⟩, by decide, by decide, by decide⟩, by decide⟩
theorem aw_made : madeF [] awL 0 = .inl [(0, 65), (1, 66), (2, 67), (10, 120), (11, 121)] := by decide
theorem awU_made : madeF [] awU 0 = .inl [(1, 65)] := by decide
def NcPost (M : List Pr) (w0 : World) (e : Ending) (w' : World) : Prop := ∃ A c rs, e = .returned (.tuple #[.agg #[.slice A rs.length c], .agg #[.int .i64 0, .int .i64 0]]) ∧ rs.length ≤ c ∧ rs.length ≤ 4096 ∧ TbR w' w'.heap.size A rs ∧ prsT rs = M ∧ Below w0.heap.size w0 w'
theorem New_const {l : List Pce} {M : List Pr} (hm : madeF [] l 0 = .inl M) (hl : l.length ≤ 4096) (hok : ∀ p ∈ l, PceOk p ∧ p.2.2.2.1.size ≤ 1000000) (T : TypeId) (w : World) (hT : Tabs w) :
    Calls Tryd.prog 25 #[.slice (some ⟨w.heap.size, 0, none⟩) l.length l.length] (w.alloc (.cells (l.flatMap pV).toArray T)) (NcPost M (w.alloc (.cells (l.flatMap pV).toArray T))) := by
  refine (New_tb l _ _ hl hok _ (tabs_alloc hT _) ((pcs_new w T l).more (by simp))).mono ?_
  rintro e w' ⟨A, c, rs, rfl, h1, h2, h3, h4, hb⟩
  unfold ftE ftA mdL at *
  rw [hm] at h4 ⊢
  exact ⟨A, c, rs, rfl, h1, h2, h3, h4, hb⟩
theorem tb_a2 {w : World} {A : Option Addr} {rs : List (Rw × Sl)} (h : TbR w w.heap.size A rs) (o1 o2 : Obj) : TbR ((w.alloc o1).alloc o2) ((w.alloc o1).alloc o2).heap.size A rs :=
  (h.below (((Below.refl _ w).alloc (Nat.le_refl _) _).alloc (by simp) _)).more (by simp; omega)
theorem aw_over {rs6 rs5 rs3 : List (Rw × Sl)} (h : prsT rs6 = overL (prsT rs5) (prsT rs3)) (h5 : prsT rs5 = [(1, 65)]) (h3 : prsT rs3 = [(0, 65), (1, 66), (2, 67), (10, 120), (11, 121)]) : prsT rs6 = [(0, 65), (1, 65), (2, 67), (10, 120), (11, 121)] := by
  rw [h, h5, h3]; decide
theorem aw_rev {w6 : World} {A : Option Addr} {c : Nat} {rs6 rs5 : List (Rw × Sl)} (h : TbR w6 w6.heap.size A rs6) (hn : rs6.length ≤ rs5.length + 1048576) (hn5 : rs5.length ≤ 4096) {L : List Pr} (hL : prsT rs6 = L) (p : Int) (v : Nat) (b : Bool) (hp : -2147483648 ≤ p ∧ p < 2147483648)
    (hv : (((L.find? fun x => x.2 == p).map (·.1)).getD 0, ((L.find? fun x => x.2 == p).map (·.1)).isSome) = (v, b)) (W : World) (hb : Below w6.heap.size w6 W) :
    Calls Tryd.prog 60 #[.agg #[.slice A rs6.length c], .int .i32 p] W fun e w' => e = .returned (.tuple #[.int .i64 (v : Nat), .bool b]) ∧ Below W.heap.size W w' := by
  have h1 := Reverse_any A c rs6 p hp (by omega) W ((h.below hb).more hb.size)
  rw [revR_eq, show (rs6.map (·.1)).flatMap prs = L from hL] at h1
  injection hv with h2 h3
  rw [h2, h3] at h1
  exact h1
theorem aw_fwd {w6 : World} {A : Option Addr} {c : Nat} {rs6 rs5 : List (Rw × Sl)} (h : TbR w6 w6.heap.size A rs6) (hn : rs6.length ≤ rs5.length + 1048576) (hn5 : rs5.length ≤ 4096) (hL : prsT rs6 = [(0, 65), (1, 65), (2, 67), (10, 120), (11, 121)]) (W : World) (hb : Below w6.heap.size w6 W) :
    Calls Tryd.prog 61 #[.agg #[.slice A rs6.length c], .int .i64 11] W fun e w' => e = .returned (.tuple #[.int .i32 121, .bool true]) ∧ Below W.heap.size W w' := by
  have h1 := Forward_any A c rs6 11 (by omega) W ((h.below hb).more hb.size)
  unfold FdPost fwdR at h1
  rw [show (rs6.map (·.1)).flatMap prs = _ from hL] at h1
  exact h1
theorem aw_size {w6 : World} {B : Nat} {A : Option Addr} {c : Nat} {rs3 : List (Rw × Sl)} (h : TbR w6 B A rs3) (hL : prsT rs3 = [(0, 65), (1, 66), (2, 67), (10, 120), (11, 121)]) (hn : rs3.length ≤ 4096) (hB : B ≤ w6.heap.size) (W : World) (hb : Below w6.heap.size w6 W) :
    Calls Tryd.prog 39 #[.agg #[.slice A rs3.length c]] W fun e w' => e = .returned (.int .i64 5) ∧ Below W.heap.size W w' := by
  have h1 := Size_any A c rs3 (by omega) W (((h.more hB).below hb).more hb.size)
  rw [← szR_len, show (rs3.map (·.1)).flatMap prs = _ from hL] at h1
  exact h1
theorem aw_keep {w6 : World} {b3 b5 : Nat} {t1 : Value} (v : Value) (T : TypeId) (q0 : w6.cell? ⟨b3, 0, none⟩ = some t1) (q1 : w6.cell? ⟨b3 + 1, 0, none⟩ = some (.int .i64 0)) (q2 : w6.cell? ⟨b3 + 1, 1, none⟩ = some (.int .i64 0)) (q4 : w6.cell? ⟨b5 + 1, 0, none⟩ = some (.int .i64 0)) (q5 : w6.cell? ⟨b5 + 1, 1, none⟩ = some (.int .i64 0)) (k1 : b3 < w6.heap.size) (k2 : b3 + 1 < w6.heap.size) (k3 : b5 + 1 < w6.heap.size) (W : World) (hb : Below (w6.alloc (.cells #[v] T)).heap.size (w6.alloc (.cells #[v] T)) W) :
    W.cell? ⟨w6.heap.size, 0, none⟩ = some v ∧ W.cell? ⟨b3, 0, none⟩ = some t1 ∧ W.cell? ⟨b3 + 1, 0, none⟩ = some (.int .i64 0) ∧ W.cell? ⟨b3 + 1, 1, none⟩ = some (.int .i64 0) ∧ W.cell? ⟨b5 + 1, 0, none⟩ = some (.int .i64 0) ∧ W.cell? ⟨b5 + 1, 1, none⟩ = some (.int .i64 0) := by
  obtain ⟨h1, _, _⟩ := bx hb
  have h2 := below_a1 hb
  exact ⟨h1 0, (h2.cell (p := ⟨b3, 0, none⟩) k1).trans q0, (h2.cell (p := ⟨b3 + 1, 0, none⟩) k2).trans q1, (h2.cell (p := ⟨b3 + 1, 1, none⟩) k2).trans q2, (h2.cell (p := ⟨b5 + 1, 0, none⟩) k3).trans q4, (h2.cell (p := ⟨b5 + 1, 1, none⟩) k3).trans q5⟩
theorem Awake_any (w : World) (hT : Tabs w) :
    Calls Tryd.prog 38 #[] w fun e w' => e = .returned (.bool true) ∧ Below w.heap.size w w' := by
  have hN1 := fun w hT => New_const aw_made (by decide) awL_ok 46 w hT
  have hN2 := fun w hT => New_const awU_made (by decide) awU_ok 46 w hT
  unfold NcPost at hN1 hN2
  have hl1 : (awL.flatMap pV).toArray = #[.int .i64 0, .int .i32 65, .int .i64 3, .string ⟨#[]⟩, .int .i64 10, .int .i32 0, .int .i64 0, .string ⟨#[120, 121]⟩] := rfl
  have hl2 : (awU.flatMap pV).toArray = #[.int .i64 1, .int .i32 65, .int .i64 1, .string ⟨#[]⟩] := rfl
  rw [hl1, show awL.length = 2 from rfl] at hN1
  rw [hl2, show awU.length = 1 from rfl] at hN2
  clear hl1 hl2
  have HP : Hid (∀ w', Below w.heap.size w w' → (fun e w' => e = Ending.returned (.bool true) ∧ Below w.heap.size w w') (.returned (.bool true)) w') := Lib.hid fun w' hb => ⟨rfl, hb⟩
  generalize (fun (e : Ending) (w' : World) => e = Ending.returned (.bool true) ∧ Below w.heap.size w w') = P at *
  go_enter Tryd.func38, Tryd.ntmps38
  go_wp2_with (first
    | (go_at_call 16; first
      | (refine (Seq_any 0 65 3 _).mono ?_; rintro e w1 ⟨rfl, hb1⟩; have HB1 := Lib.hid hb1; have hT1 := Tabs_below hT hb1 (Nat.le_refl _))
      | (refine (Seq_any 1 65 1 _).mono ?_; rintro e w4 ⟨rfl, hb4⟩; have HB4 := Lib.hid hb4; have hT4 := Tabs_below (tabs_alloc (tabs_alloc hT3 _) _) hb4 (Nat.le_refl _)))
    | (go_at_call 34; refine (List_any 10 _ _).mono ?_; rintro e w2 ⟨rfl, hb2⟩; have HB2 := Lib.hid (HB1.out.trans (hb2.mono HB1.out.size)); have hT2 := Tabs_below hT1 hb2 (Nat.le_refl _))
    | (go_at_call 25; first
      | (refine (hN1 _ hT2).mono ?_; rintro e w3 ⟨A3, c3, rs3, rfl, h13, h23, h33, h43, hb3⟩; have HB3 := Lib.hid (HB2.out.trans ((below_a1 hb3).mono HB2.out.size)); have hT3 := Tabs_below (tabs_alloc hT2 _) hb3 (Nat.le_refl _); have H33 := Lib.hid h33; have H43 := Lib.hid h43; clear h33 h43 hN1 hT1 hT2 hb1 hb2 hb3)
      | (refine (hN2 _ hT4).mono ?_; rintro e w5 ⟨A5, c5, rs5, rfl, h15, h25, h35, h45, hb5⟩; have HB5 := Lib.hid (HB4.out.trans ((below_a1 hb5).mono HB4.out.size)); have H35 := Lib.hid h35; have H45 := Lib.hid h45; clear h35 h45 hN2 hb5 hT3 hT4; obtain ⟨p0, p1, p2, ps⟩ := bx22 HB5.out; have g1 : w3.heap.size < w5.heap.size := (by omega); have g2 : w3.heap.size < w5.heap.size + 1 := (by omega); have g3 : w3.heap.size + 1 < w5.heap.size + 1 := (by omega); have H3b := Lib.hid ((H33.out.below (below_a2 HB5.out)).more (show w3.heap.size ≤ w5.heap.size by omega))))
    | (go_at_call 36; refine (Over_any A5 A3 c5 c3 rs5 rs3 (by omega) (by omega) _ (tb_a2 H35.out _ _) (tb_a2 H3b.out _ _)).mono ?_; rintro e w6 ⟨A6, c6, rs6, rfl, h16, h26, h36, h46, hb6⟩; obtain ⟨q3, q4, q5, qs⟩ := bx22 hb6; have hb56 := below_a2 hb6; have q0 := (hb56.cell (p := ⟨w3.heap.size, 0, none⟩) g1).trans p0; have q1 := (hb56.cell (p := ⟨w3.heap.size + 1, 0, none⟩) ps).trans p1; have q2 := (hb56.cell (p := ⟨w3.heap.size + 1, 1, none⟩) ps).trans p2; have HB6 := Lib.hid (hb56.mono (show w.heap.size ≤ w5.heap.size by have := HB3.out.size; omega)); have k1 : w3.heap.size < w6.heap.size := (by omega); have k2 : w3.heap.size + 1 < w6.heap.size := (by omega); have k3 : w5.heap.size + 1 < w6.heap.size := (by omega); have hR65 := aw_rev (A := A6) (c := c6) h36 h26 h25 (aw_over h46 H45.out H43.out) 65 0 true (by decide) rfl; have hR66 := aw_rev (A := A6) (c := c6) h36 h26 h25 (aw_over h46 H45.out H43.out) 66 0 false (by decide) rfl; have hF11 := aw_fwd (A := A6) (c := c6) h36 h26 h25 (aw_over h46 H45.out H43.out); have hS5 := aw_size (c := c3) (H3b.out.below hb56) H43.out h23 (show w5.heap.size ≤ w6.heap.size by omega); have hK := aw_keep (.slice A6 rs6.length c6) 24 q0 q1 q2 q4 q5 k1 k2 k3; clear p0 p1 p2 q0 q1 q2 q3 q4 q5 hb6 h36 h46 g2 g3)
    | (go_at_call 60; first
      | (refine (hR65 _ ((Below.refl _ _).alloc (Nat.le_refl _) _)).mono ?_; rintro e w7 ⟨rfl, hb7⟩; have HB7 := Lib.hid hb7; clear hR65; obtain ⟨a0, a1, a2, a3, a4, a5⟩ := hK _ HB7.out)
      | (refine (hR66 _ (below_a1 HB7.out)).mono ?_; rintro e w8 ⟨rfl, hb8⟩; have HB8 := Lib.hid (HB7.out.trans (hb8.mono HB7.out.size)); clear hR66 a0 a1 a2 a3 a4 a5; obtain ⟨a0, a1, a2, a3, a4, a5⟩ := hK _ HB8.out))
    | (go_at_call 61; refine (hF11 _ (below_a1 HB8.out)).mono ?_; rintro e w9 ⟨rfl, hb9⟩; have HB9 := Lib.hid (HB8.out.trans (hb9.mono HB8.out.size)); clear hF11 a0 a1 a2 a3 a4 a5; obtain ⟨a0, a1, a2, a3, a4, a5⟩ := hK _ HB9.out)
    | (go_at_call 9; first
      | (refine (Bad_any 0 0 w9).mono ?_; rintro e w10 ⟨rfl, hb10⟩; have HB10 := Lib.hid (HB9.out.trans (hb10.mono HB9.out.size)); clear a0 a1 a2 a3 a4 a5; obtain ⟨a0, a1, a2, a3, a4, a5⟩ := hK _ HB10.out)
      | (refine (Bad_any 0 0 w10).mono ?_; rintro e w11 ⟨rfl, hb11⟩; have HB11 := Lib.hid (HB10.out.trans (hb11.mono HB10.out.size)); clear a0 a1 a2 a3 a4 a5; obtain ⟨a0, a1, a2, a3, a4, a5⟩ := hK _ HB11.out))
    | (go_at_call 39; refine (hS5 _ (below_a1 HB11.out)).mono ?_; rintro e w12 ⟨rfl, hb12⟩; have HB12 := Lib.hid (HB11.out.trans (hb12.mono HB11.out.size))))
  have hz3 := HB3.out.size
  exact HP.out _ (((HB3.out.trans ((below_a2 HB5.out).mono hz3)).trans HB6.out).trans ((below_a1 HB12.out).mono (by omega)))
end Go.Proofs.YtpnjandlpbjddabDoor
