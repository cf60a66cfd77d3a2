/- Contracts: single.table, plain, russian, ukrainian, alternative, Of: the program's tables of chapter 5 as pairs. -/
import Derived.Test.YtpnjandlpbjddabDoorKB
import Derived.Laws.Rows
set_option maxRecDepth 100000
set_option maxHeartbeats 4000000
namespace Go.Proofs.YtpnjandlpbjddabDoor
open Go Go.RowKit

theorem STable_any (l : List Pce) (A : Option Addr) (c : Nat) (hl : l.length ≤ 4096) (hok : ∀ p ∈ l, PceOk p ∧ p.2.2.2.1.size ≤ 1000000) (w : World) (hT : Tabs w) (hA : PcsL w w.heap.size A l) :
    Calls Tryd.prog 15 #[.slice A l.length c] w (TbPost (mdL l) w) := by
  have hn := fun o => New_tb l A c hl hok (w.alloc o) (tabs_alloc hT o) ((hA.below ((Below.refl _ _).alloc (Nat.le_refl _) o)).more (by simp))
  have HP : Hid (∀ A c rs w', rs.length ≤ c → rs.length ≤ 4096 → TbR w' w'.heap.size A rs → prsT rs = mdL l → Below w.heap.size w w' → TbPost (mdL l) w (.returned (.agg #[.slice A rs.length c])) w') := Lib.hid fun A c rs w' h1 h2 h3 h4 hb => ⟨A, c, rs, rfl, h1, h2, h3, h4, hb⟩
  generalize TbPost (mdL l) w = P at *
  generalize ftE l = fe at *
  generalize ftA l = fa at *
  unfold NtPost at hn
  go_enter Tryd.func15, Tryd.ntmps15
  go_wp2_with (go_at_call 25; refine (hn _).mono ?_; rintro e w3 ⟨A3, c3, rs, rfl, h1, h2, h3, h4, hb3⟩; have HB3 := Lib.hid (below_a1 hb3); have hz3 := hb3.size; simp only [World.size_alloc] at hz3; have g0 : w.heap.size < w3.heap.size := (by omega); have g1 : w.heap.size < w3.heap.size + 1 := (by omega); obtain ⟨b0, f0, _⟩ := bx hb3; have d0 := b0 0; have d1 := f0 0)
  refine bodyPost_ret (v := .agg #[.slice A3 rs.length c3]) (by simp [results, Tryd.results15, go_sem, World.cell?_alloc_lt, g0, g1, d0]) rfl ?_
  have hh := heap_below (heap_alloc_new w (.cells #[.slice none 0 0] 24)) hb3
  have hb4 : ∀ (w3 : World) o1 o2, Below w3.heap.size w3 ((w3.alloc o1).alloc o2) := fun w3 o1 o2 => (((Below.refl _ w3).alloc (Nat.le_refl _) _).alloc (by simp) _)
  have h5 : TbR (w3.setCell ⟨w.heap.size, 0, none⟩ (.slice A3 rs.length c3)) (w3.setCell ⟨w.heap.size, 0, none⟩ (.slice A3 rs.length c3)).heap.size A3 rs := (h3.set1 hh (by decide) _).more (by simp)
  exact HP.out A3 c3 rs _ h1 h2 ((h5.below (hb4 _ _ _)).more (by simp only [World.size_alloc]; omega)) h4 ((HB3.out.setCell (Nat.le_refl _) _).trans ((hb4 _ _ _).mono (by simp; omega)))
theorem STable_const {l : List Pce} {M : List Pr} (hm : madeF [] l 0 = .inl M) (hl : l.length ≤ 4096) (hok : ∀ p ∈ l, PceOk p ∧ p.2.2.2.1.size ≤ 1000000) (T : TypeId) (w : World) (hT : Tabs w) :
    Calls Tryd.prog 15 #[.slice (some ⟨w.heap.size, 0, none⟩) l.length l.length] (w.alloc (.cells (l.flatMap pV).toArray T)) (TbPost M (w.alloc (.cells (l.flatMap pV).toArray T))) := by
  have h := STable_any l (some ⟨w.heap.size, 0, none⟩) l.length hl hok _ (tabs_alloc hT (.cells (l.flatMap pV).toArray T)) ((pcs_new w T l).more (by simp))
  unfold mdL at h
  rw [hm] at h
  exact h
theorem SPlain_any (w : World) : Calls Tryd.prog 33 #[] w fun e w' => e = .returned (.agg #[.int .i64 0, .int .i32 0, .int .i64 128, .string ⟨#[]⟩]) ∧ Below w.heap.size w w' := by
  go_enter Tryd.func33, Tryd.ntmps33
  go_wp2_with (go_at_call 16; refine (Seq_any 0 0 128 _).mono ?_; rintro e w1 ⟨rfl, hb1⟩; obtain ⟨⟨b0, b1, b2, b3⟩, f0, f1, f2, f3⟩ := bx4 hb1; have HB1 := Lib.hid (below_a1 hb1); clear hb1)
  refine bodyPost_ret (v := .agg #[.int .i64 0, .int .i32 0, .int .i64 128, .string ⟨#[]⟩]) (by simp [results, Tryd.results33, go_sem, b0, b1, b2, b3]) rfl ⟨rfl, ?_⟩
  exact (((HB1.out.setCell (Nat.le_refl _) _).setCell (Nat.le_refl _) _).setCell (Nat.le_refl _) _).setCell (Nat.le_refl _) _
def eqB : List UInt8 → List UInt8 → Bool
  | [], [] => true
  | a :: l, b :: r => Nat.beq a.toNat b.toNat && eqB l r
  | _, _ => false
theorem eqB_eq : ∀ (l r : List UInt8), eqB l r = true → l = r
  | [], [], _ => rfl
  | a :: l, b :: r, h => by
    simp only [eqB, Bool.and_eq_true] at h
    rw [eqB_eq l r h.2, UInt8.toNat_inj.1 (Nat.eq_of_beq_eq_true h.1)]
  | [], _ :: _, h => by simp [eqB] at h
  | _ :: _, [], h => by simp [eqB] at h
def lB (l : List UInt8) : ByteArray := ⟨l.toArray⟩
theorem lit5 (l : List UInt8) (d : Array UInt8) (h : eqB d.toList l = true) : ByteArray.mk d = lB l := by
  have := eqB_eq _ _ h
  unfold lB
  rw [← this]
theorem Signs_const {l : List UInt8} {ps : List Int} (h : hexG l = ps ∧ hexOkG l = true) (hl : l.length ≤ 100000) (w : World) :
    Calls Tryd.prog 35 #[.string (lB l)] w fun e w' => e = .returned (.string (tB ps)) ∧ Below w.heap.size w w' := by
  have h1 := Signs_any (lB l) (show (lB l).size ≤ 100000 from hl) (by show hexOkG l = true; exact h.2) w
  rw [show hexG (lB l).data.toList = ps from h.1] at h1
  exact h1
/-- A table put into a box of the call's own. -/
theorem tb_box {w w3 : World} {A : Option Addr} {c : Nat} {rs : List (Rw × Sl)} (h : TbR w3 w3.heap.size A rs) (hb : Below (w.alloc (.cells #[.slice none 0 0] 24)).heap.size (w.alloc (.cells #[.slice none 0 0] 24)) w3) :
    TbR (w3.setCell ⟨w.heap.size, 0, none⟩ (.slice A rs.length c)) (w3.setCell ⟨w.heap.size, 0, none⟩ (.slice A rs.length c)).heap.size A rs ∧ Below w.heap.size w (w3.setCell ⟨w.heap.size, 0, none⟩ (.slice A rs.length c)) :=
  ⟨(h.set1 (heap_below (heap_alloc_new w (.cells #[.slice none 0 0] 24)) hb) (by decide) _).more (by simp), (below_a1 hb).setCell (Nat.le_refl _) _⟩
theorem SRussian_any (w : World) (hT : Tabs w) : Calls Tryd.prog 17 #[] w (TbPost (setL 1) w) := by
  have HP : Hid (∀ A c rs w', rs.length ≤ c → rs.length ≤ 4096 → TbR w' w'.heap.size A rs → prsT rs = setL 1 → Below w.heap.size w w' → TbPost (setL 1) w (.returned (.agg #[.slice A rs.length c])) w') := Lib.hid fun A c rs w' h1 h2 h3 h4 hb => ⟨A, c, rs, rfl, h1, h2, h3, h4, hb⟩
  generalize TbPost (setL 1) w = P at *
  have hsg := fun W => Signs_const koi_sg (by decide) W
  have htb := fun W h => STable_const rus_made (by decide) rusP_ok 46 W h
  rw [show (rusP.flatMap pV).toArray = #[.int .i64 0, .int .i32 0, .int .i64 128, .string ⟨#[]⟩, .int .i64 128, .int .i32 0, .int .i64 0, .string (tB rusL)] from rfl, show rusP.length = 2 from rfl] at htb
  unfold TbPost at htb
  refine calls_of_wp Tryd.func17 rfl ?_
  rw [lit5 koiB]
  rotate_left
  kernel_rfl
  generalize lB koiB = b1 at *
  generalize tB rusL = b2 at *
  simp only [Tryd.ntmps17, List.size_toArray, List.length_nil, Nat.reduceSub, Array.replicate_succ, Array.replicate_zero, List.push_toArray, List.append_toArray, List.nil_append, List.cons_append]
  go_wp2_with (first
    | (go_at_call 33; refine (SPlain_any _).mono ?_; rintro e w1 ⟨rfl, hb1⟩; have HB1 := Lib.hid hb1; have hT1 := Tabs_below (tabs_alloc hT _) hb1 (Nat.le_refl _))
    | (go_at_call 35; refine (hsg _).mono ?_; rintro e w2 ⟨rfl, hb2⟩; have HB2 := Lib.hid (HB1.out.trans (hb2.mono HB1.out.size)); have hT2 := Tabs_below hT1 hb2 (Nat.le_refl _))
    | (go_at_call 34; refine (List_any 128 _ _).mono ?_; rintro e w3 ⟨rfl, hb3⟩; have HB3 := Lib.hid (HB2.out.trans (hb3.mono HB2.out.size)); have hT3 := Tabs_below hT2 hb3 (Nat.le_refl _))
    | (go_at_call 15; refine (htb _ hT3).mono ?_; rintro e w4 ⟨A, c, rs, rfl, h1, h2, h3, h4, hb4⟩; have HB4 := Lib.hid (HB3.out.trans ((below_a1 hb4).mono HB3.out.size)); have H3 := Lib.hid h3; have H4 := Lib.hid h4; clear h3 h4 hb1 hb2 hb3 hb4 hT1 hT2 hT3; obtain ⟨b0, f0, _⟩ := bx HB4.out; have d0 := b0 0; have d1 := f0 0; clear b0 f0))
  obtain ⟨g1, g2⟩ := tb_box (c := c) H3.out HB4.out
  refine bodyPost_ret (v := .agg #[.slice A rs.length c]) (by simp [results, Tryd.results17, go_sem, d0]) rfl ?_
  exact HP.out A c rs _ h1 h2 g1 H4.out g2
theorem len_sz : ∀ rs : List (Rw × Sl), (∀ x ∈ rs, 1 ≤ x.1.2.1) → rs.length ≤ szR rs
  | [], _ => by simp
  | x :: rs, h => by
    have h1 := len_sz rs (fun y hy => h y (List.mem_cons_of_mem _ hy))
    have h2 := h x (List.mem_cons_self ..)
    unfold szR at *
    simp only [List.map_cons, List.sum_cons, List.length_cons]
    omega
theorem tb_len {w : World} {B : Nat} {A : Option Addr} {rs : List (Rw × Sl)} (h : TbR w B A rs) : rs.length ≤ (prsT rs).length := by
  have h1 := len_sz rs (fun x hx => (h.2.1 x hx).1.1)
  have h2 := szR_len rs
  unfold prsT
  omega
theorem step_bt {w0 W W' : World} (h : Hid (Below w0.heap.size w0 W ∧ Tabs W)) (hb : Below W.heap.size W W') : Hid (Below w0.heap.size w0 W' ∧ Tabs W') :=
  Lib.hid ⟨h.out.1.trans (hb.mono h.out.1.size), Tabs_below h.out.2 hb (Nat.le_refl _)⟩
theorem SAlternative_any (w : World) (hT : Tabs w) : Calls Tryd.prog 19 #[] w (TbPost (setL 3) w) := by
  have HP : Hid (∀ A c rs w', rs.length ≤ c → rs.length ≤ 4096 → TbR w' w'.heap.size A rs → prsT rs = setL 3 → Below w.heap.size w w' → TbPost (setL 3) w (.returned (.agg #[.slice A rs.length c])) w') := Lib.hid fun A c rs w' h1 h2 h3 h4 hb => ⟨A, c, rs, rfl, h1, h2, h3, h4, hb⟩
  generalize TbPost (setL 3) w = P at *
  have hs1 := fun W => Signs_const b0_sg (by decide) W
  have hs2 := fun W => Signs_const f0_sg (by decide) W
  have htb := fun W h => STable_const alt_made (by decide) altP_ok 46 W h
  rw [show (altP.flatMap pV).toArray = #[.int .i64 0, .int .i32 0, .int .i64 128, .string ⟨#[]⟩, .int .i64 128, .int .i32 1040, .int .i64 48, .string ⟨#[]⟩, .int .i64 176, .int .i32 0, .int .i64 0, .string (tB frmL), .int .i64 224, .int .i32 1088, .int .i64 16, .string ⟨#[]⟩, .int .i64 240, .int .i32 0, .int .i64 0, .string (tB othL)] from rfl, show altP.length = 5 from rfl] at htb
  unfold TbPost at htb
  refine calls_of_wp Tryd.func19 rfl ?_
  rw [lit5 b0B]
  rotate_left
  kernel_rfl
  rw [lit5 f0B]
  rotate_left
  kernel_rfl
  generalize lB b0B = b1 at *
  generalize lB f0B = b2 at *
  generalize tB frmL = b3 at *
  generalize tB othL = b4 at *
  simp only [Tryd.ntmps19, List.size_toArray, List.length_nil, Nat.reduceSub, Array.replicate_succ, Array.replicate_zero, List.push_toArray, List.append_toArray, List.nil_append, List.cons_append]
  have hP0 : Hid (Below (w.alloc (.cells #[.slice none 0 0] 24)).heap.size (w.alloc (.cells #[.slice none 0 0] 24)) (w.alloc (.cells #[.slice none 0 0] 24)) ∧ Tabs (w.alloc (.cells #[.slice none 0 0] 24))) := Lib.hid ⟨Below.refl _ _, tabs_alloc hT _⟩
  go_wp2_with (first
    | (go_at_call 33; refine (SPlain_any _).mono ?_; rintro e w1 ⟨rfl, hb1⟩; have G1 := step_bt hP0 hb1)
    | (go_at_call 16; first
      | ((with_reducible refine (Seq_any 128 1040 48 _).mono ?_); rintro e w2 ⟨rfl, hb2⟩; have G2 := step_bt G1 hb2)
      | ((with_reducible refine (Seq_any 224 1088 16 _).mono ?_); rintro e w5 ⟨rfl, hb5⟩; have G5 := step_bt G4 hb5))
    | (go_at_call 35; first
      | ((with_reducible refine (hs1 _).mono ?_); rintro e w3 ⟨rfl, hb3⟩; have G3 := step_bt G2 hb3)
      | ((with_reducible refine (hs2 _).mono ?_); rintro e w6 ⟨rfl, hb6⟩; have G6 := step_bt G5 hb6))
    | (go_at_call 34; first
      | ((with_reducible refine (List_any 176 b3 _).mono ?_); rintro e w4 ⟨rfl, hb4⟩; have G4 := step_bt G3 hb4)
      | ((with_reducible refine (List_any 240 _ _).mono ?_); rintro e w7 ⟨rfl, hb7⟩; have G7 := step_bt G6 hb7))
    | (go_at_call 15; refine (htb _ G7.out.2).mono ?_; rintro e w8 ⟨A, c, rs, rfl, h1, h2, h3, h4, hb8⟩; have HB8 := Lib.hid (G7.out.1.trans ((below_a1 hb8).mono G7.out.1.size)); have H3 := Lib.hid h3; have H4 := Lib.hid h4; clear h3 h4 hb8; obtain ⟨b0, f0, _⟩ := bx HB8.out; have d0 := b0 0; have d1 := f0 0; clear b0 f0))
  obtain ⟨g1, g2⟩ := tb_box (c := c) H3.out HB8.out
  refine bodyPost_ret (v := .agg #[.slice A rs.length c]) (by simp [results, Tryd.results19, go_sem, d0]) rfl ?_
  exact HP.out A c rs _ h1 h2 g1 H4.out g2
theorem SUkrainian_any (w : World) (hT : Tabs w) : Calls Tryd.prog 18 #[] w (TbPost (setL 2) w) := by
  have HP : Hid (∀ A c rs w', rs.length ≤ c → rs.length ≤ 4096 → TbR w' w'.heap.size A rs → prsT rs = setL 2 → Below w.heap.size w w' → TbPost (setL 2) w (.returned (.agg #[.slice A rs.length c])) w') := Lib.hid fun A c rs w' h1 h2 h3 h4 hb => ⟨A, c, rs, rfl, h1, h2, h3, h4, hb⟩
  generalize TbPost (setL 2) w = P at *
  have htb := fun W h => STable_const ukr_made (by decide) ukrP_ok 46 W h
  rw [show (ukrP.flatMap pV).toArray = #[.int .i64 164, .int .i32 1108, .int .i64 1, .string ⟨#[]⟩, .int .i64 166, .int .i32 1110, .int .i64 2, .string ⟨#[]⟩, .int .i64 173, .int .i32 1169, .int .i64 1, .string ⟨#[]⟩, .int .i64 180, .int .i32 1028, .int .i64 1, .string ⟨#[]⟩, .int .i64 182, .int .i32 1030, .int .i64 2, .string ⟨#[]⟩, .int .i64 189, .int .i32 1168, .int .i64 1, .string ⟨#[]⟩] from rfl, show ukrP.length = 6 from rfl] at htb
  unfold TbPost at htb
  have hP0 : Hid (Below (w.alloc (.cells #[.slice none 0 0] 24)).heap.size (w.alloc (.cells #[.slice none 0 0] 24)) (w.alloc (.cells #[.slice none 0 0] 24)) ∧ Tabs (w.alloc (.cells #[.slice none 0 0] 24))) := Lib.hid ⟨Below.refl _ _, tabs_alloc hT _⟩
  go_enter Tryd.func18, Tryd.ntmps18
  go_wp2_with (first
    | (go_at_call 16; first
      | ((with_reducible refine (Seq_any 164 1108 1 _).mono ?_); rintro e x0 ⟨rfl, hb1⟩; have G0 := step_bt hP0 hb1; clear hb1)
      | ((with_reducible refine (Seq_any 166 1110 2 _).mono ?_); rintro e x1 ⟨rfl, hb1⟩; have G1 := step_bt G0 hb1; clear hb1)
      | ((with_reducible refine (Seq_any 173 1169 1 _).mono ?_); rintro e x2 ⟨rfl, hb1⟩; have G2 := step_bt G1 hb1; clear hb1)
      | ((with_reducible refine (Seq_any 180 1028 1 _).mono ?_); rintro e x3 ⟨rfl, hb1⟩; have G3 := step_bt G2 hb1; clear hb1)
      | ((with_reducible refine (Seq_any 182 1030 2 _).mono ?_); rintro e x4 ⟨rfl, hb1⟩; have G4 := step_bt G3 hb1; clear hb1)
      | ((with_reducible refine (Seq_any 189 1168 1 _).mono ?_); rintro e x5 ⟨rfl, hb1⟩; have G5 := step_bt G4 hb1; clear hb1))
    | (go_at_call 15; refine (htb _ G5.out.2).mono ?_; rintro e w8 ⟨A, c, rs, rfl, h1, h2, h3, h4, hb8⟩; have HB8 := Lib.hid (G5.out.1.trans ((below_a1 hb8).mono G5.out.1.size)); have H3 := Lib.hid h3; have H4 := Lib.hid h4; clear h3 h4 hb8; obtain ⟨b0, f0, hlt8⟩ := bx HB8.out; have d0 := b0 0; have d1 := f0 0; clear b0 f0))
  have hbx := ((Below.refl w8.heap.size w8).alloc (Nat.le_refl _) (.cells #[.slice A rs.length c] 24)).drew
  have hcx : (w8.alloc (.cells #[.slice A rs.length c] 24)).drew.cell? ⟨w8.heap.size, 0, none⟩ = some (.slice A rs.length c) := cell_one_new w8 _ _ 0 _ rfl
  have hT8 : Tabs w8 := Tabs_below (tabs_alloc hT _) HB8.out (Nat.le_refl _)
  have hTx := Tabs_below hT8 hbx (Nat.le_refl _)
  have hHx := (H3.out.below hbx).more hbx.size
  have hBx := Lib.hid (HB8.out.trans (hbx.mono HB8.out.size))
  have hzx : w8.heap.size < (w8.alloc (.cells #[.slice A rs.length c] 24)).drew.heap.size := by simp
  refine wp_region_lin (fun W => W.cell? ⟨w8.heap.size, 0, none⟩ = some (.slice A rs.length c)) [(0, true), (1, false), (2, false), (3, false)] (by kernel_rfl) (by kernel_rfl) (by kernel_rfl) (Nat.le_of_ble_eq_true rfl) (fun _ _ d _ _ h => by cases d <;> exact h) hcx ?_
  generalize (w8.alloc (.cells #[.slice A rs.length c] 24)).drew = W0 at *
  refine lin_pure rfl (by rfl) (.agg #[.slice A rs.length c]) (fun W hSw => by go_simp) ?_
  try simp only [Act.put, List.setIfInBounds_toArray, List.set_cons_zero, List.set_cons_succ]
  refine lin_eff rfl (by rfl) (fun K hK => ?_)
  go_simp
  refine (SRussian_any W0 hTx).mono ?_
  rintro e W1 ⟨A2, c2, rs2, rfl, q1, q2, q3, q4, hb9⟩
  have hS1 := (hb9.cell (p := ⟨w8.heap.size, 0, none⟩) hzx).trans hcx
  have hH1 := (hHx.below hb9).more hb9.size
  have HB9 := Lib.hid (hBx.out.trans (hb9.mono hBx.out.size))
  have HQ4 := Lib.hid q4
  have H1z := hb9.size
  clear hcx hHx hTx hbx hT8 hb9 q4
  go_wp2_with fail
  refine hK.out _ _ hS1 ?_
  clear hK K
  try simp only [Act.put, List.setIfInBounds_toArray, List.set_cons_zero, List.set_cons_succ]
  refine lin_eff rfl (by rfl) (fun K hK => ?_)
  go_simp
  refine (Over_any A A2 c c2 rs rs2 (by omega) (by omega) W1 hH1 q3).mono ?_
  rintro e W2 ⟨A3, c3, rs3, rfl, r1, r2, r3, r4, hb10⟩
  have hS2 := (hb10.cell (p := ⟨w8.heap.size, 0, none⟩) (Nat.lt_of_lt_of_le hzx H1z)).trans hS1
  have HB10 := Lib.hid (HB9.out.trans (hb10.mono HB9.out.size))
  have HR4 := Lib.hid (r4.trans (by rw [H4.out, HQ4.out, ukr_over]))
  clear hH1 q3 hS1 hb10 r4
  obtain ⟨b0, f0, hlt0⟩ := bx HB10.out
  have e0 := b0 0
  have e1 := f0 0
  clear b0 f0
  go_wp2_with fail
  refine hK.out _ _ hS2 ?_
  clear hK K
  try simp only [Act.put, List.setIfInBounds_toArray, List.set_cons_zero, List.set_cons_succ]
  refine lin_eff rfl (by rfl) (fun K hK => ?_)
  have hS3 : (W2.setCell ⟨w.heap.size, 0, none⟩ (.slice A3 rs3.length c3)).cell? ⟨w8.heap.size, 0, none⟩ = some (.slice A rs.length c) := (cell_set (by show w8.heap.size ≠ w.heap.size; omega) _).trans hS2
  go_wp2_with fail
  refine hK.out _ _ hS3 ?_
  clear hK K
  try simp only [Act.put, List.setIfInBounds_toArray, List.set_cons_zero, List.set_cons_succ]
  refine lin_nil ?_
  go_wp2_with fail
  obtain ⟨g1, g2⟩ := tb_box (c := c3) r3 HB10.out
  refine bodyPost_ret (v := .agg #[.slice A3 rs3.length c3]) (by simp [results, Tryd.results18, go_sem, e0]) rfl ?_
  exact HP.out A3 c3 rs3 _ r1 (by have := tb_len r3; rw [HR4.out] at this; exact Nat.le_trans this (by decide)) g1 HR4.out g2
def OfPost (c : Nat) (w0 : World) (e : Ending) (w' : World) : Prop := ∃ A cp rs, e = .returned (.tuple #[.agg #[.slice A rs.length cp, .int .i64 c], .bool true]) ∧ rs.length ≤ cp ∧ rs.length ≤ 4096 ∧ TbR w' w'.heap.size A rs ∧ prsT rs = setL c ∧ Below w0.heap.size w0 w'
/-- A store into a small box of the call's own leaves a table as it is. -/
theorem TbR.setS {w : World} {B g j0 : Nat} {A : Option Addr} {rs : List (Rw × Sl)} {T : TypeId} {cs : Array Value} (h : TbR w B A rs) (hg : w.heap[g]? = some (.cells cs T (0, 0))) (hs : cs.size ≤ 3) (hT : T ≠ 21) (v : Value) : TbR (w.setCell ⟨g, j0, none⟩ v) B A rs := by
  refine ⟨⟨⟨h.1.1.1, fun h0 => ?_⟩, h.1.2⟩, fun x hx => ⟨(h.2.1 x hx).1, (h.2.1 x hx).2.keep fun k _ ⟨cs', fr, hh⟩ => heap_set (by rintro rfl; rw [hh] at hg; injection hg with hg; injection hg with _ hg _; exact hT hg.symm) v⟩, h.2.2⟩
  obtain ⟨ad, hA, hb, hc⟩ := h.1.1.2 h0
  have hsp := h.1.2 ad hA
  refine ⟨ad, hA, hb, fun j u hu => ?_⟩
  have hbk : ad.block ≠ g := by
    rintro rfl
    cases rs with
    | nil => simp at h0
    | cons x rs =>
      have := hc 3 (slV x.2) rfl
      rw [sg_cell hsp hg, Array.getElem?_eq_none (by omega)] at this
      cases this
  rw [cell_set (by rw [block_of_add]; exact hbk)]
  exact hc j u hu
theorem heap_two {w : World} {g : Nat} {a b : Value} {T : TypeId} (h : w.heap[g]? = some (.cells #[a, b] T (0, 0))) (v : Value) : (w.setCell ⟨g, 0, none⟩ v).heap[g]? = some (.cells #[v, b] T (0, 0)) := by
  rw [heap_setCell_same _ _ _ _ _ _ h]; rfl
theorem tb_box2 {w w3 : World} {A : Option Addr} {c : Nat} {k : Int} {rs : List (Rw × Sl)} (h : TbR w3 w3.heap.size A rs) (hb : Below (w.alloc (.cells #[.slice none 0 0, .int .i64 0] 27)).heap.size (w.alloc (.cells #[.slice none 0 0, .int .i64 0] 27)) w3) :
    TbR ((w3.setCell ⟨w.heap.size, 0, none⟩ (.slice A rs.length c)).setCell ⟨w.heap.size, 1, none⟩ (.int .i64 k)) ((w3.setCell ⟨w.heap.size, 0, none⟩ (.slice A rs.length c)).setCell ⟨w.heap.size, 1, none⟩ (.int .i64 k)).heap.size A rs ∧ Below w.heap.size w ((w3.setCell ⟨w.heap.size, 0, none⟩ (.slice A rs.length c)).setCell ⟨w.heap.size, 1, none⟩ (.int .i64 k)) := by
  have hg := heap_below (heap_alloc_new w (.cells #[.slice none 0 0, .int .i64 0] 27)) hb
  exact ⟨((h.setS hg (by decide) (by decide) _).setS (heap_two hg _) (by simp) (by decide) _).more (by simp), ((below_a1 hb).setCell (Nat.le_refl _) _).setCell (Nat.le_refl _) _⟩
theorem SOf_1 (w : World) (hT : Tabs w) : Calls Tryd.prog 6 #[.int .i64 1] w (OfPost 1 w) := by
  have HP : Hid (∀ A c rs w', rs.length ≤ c → rs.length ≤ 4096 → TbR w' w'.heap.size A rs → prsT rs = setL 1 → Below w.heap.size w w' → OfPost 1 w (.returned (.tuple #[.agg #[.slice A rs.length c, .int .i64 1], .bool true])) w') := Lib.hid fun A c rs w' h1 h2 h3 h4 hb => ⟨A, c, rs, rfl, h1, h2, h3, h4, hb⟩
  generalize OfPost 1 w = P at *
  go_enter Tryd.func6, Tryd.ntmps6
  go_wp2_with (go_at_call 17; refine (SRussian_any _ (tabs_alloc hT _)).mono ?_; rintro e w4 ⟨A, c, rs, rfl, h1, h2, h3, h4, hb4⟩; have HB4 := Lib.hid hb4; have H3 := Lib.hid h3; have H4 := Lib.hid h4; clear h3 h4 hb4; obtain ⟨b0, f0, _⟩ := bx HB4.out; have d0 := b0 0; have d1 := f0 0; have d2 := b0 1; have d3 := f0 1; clear b0 f0)
  obtain ⟨g1, g2⟩ := tb_box2 (c := c) (k := 1) H3.out HB4.out
  refine bodyPost_ret (v := .tuple #[.agg #[.slice A rs.length c, .int .i64 1], .bool true]) (by simp [results, Tryd.results6, go_sem, d0, d2]) rfl ?_
  exact HP.out A c rs _ h1 h2 g1 H4.out g2
theorem SOf_2 (w : World) (hT : Tabs w) : Calls Tryd.prog 6 #[.int .i64 2] w (OfPost 2 w) := by
  have HP : Hid (∀ A c rs w', rs.length ≤ c → rs.length ≤ 4096 → TbR w' w'.heap.size A rs → prsT rs = setL 2 → Below w.heap.size w w' → OfPost 2 w (.returned (.tuple #[.agg #[.slice A rs.length c, .int .i64 2], .bool true])) w') := Lib.hid fun A c rs w' h1 h2 h3 h4 hb => ⟨A, c, rs, rfl, h1, h2, h3, h4, hb⟩
  generalize OfPost 2 w = P at *
  go_enter Tryd.func6, Tryd.ntmps6
  go_wp2_with (go_at_call 18; refine (SUkrainian_any _ (tabs_alloc hT _)).mono ?_; rintro e w4 ⟨A, c, rs, rfl, h1, h2, h3, h4, hb4⟩; have HB4 := Lib.hid hb4; have H3 := Lib.hid h3; have H4 := Lib.hid h4; clear h3 h4 hb4; obtain ⟨b0, f0, _⟩ := bx HB4.out; have d0 := b0 0; have d1 := f0 0; have d2 := b0 1; have d3 := f0 1; clear b0 f0)
  obtain ⟨g1, g2⟩ := tb_box2 (c := c) (k := 2) H3.out HB4.out
  refine bodyPost_ret (v := .tuple #[.agg #[.slice A rs.length c, .int .i64 2], .bool true]) (by simp [results, Tryd.results6, go_sem, d0, d2]) rfl ?_
  exact HP.out A c rs _ h1 h2 g1 H4.out g2
theorem SOf_3 (w : World) (hT : Tabs w) : Calls Tryd.prog 6 #[.int .i64 3] w (OfPost 3 w) := by
  have HP : Hid (∀ A c rs w', rs.length ≤ c → rs.length ≤ 4096 → TbR w' w'.heap.size A rs → prsT rs = setL 3 → Below w.heap.size w w' → OfPost 3 w (.returned (.tuple #[.agg #[.slice A rs.length c, .int .i64 3], .bool true])) w') := Lib.hid fun A c rs w' h1 h2 h3 h4 hb => ⟨A, c, rs, rfl, h1, h2, h3, h4, hb⟩
  generalize OfPost 3 w = P at *
  go_enter Tryd.func6, Tryd.ntmps6
  go_wp2_with (go_at_call 19; refine (SAlternative_any _ (tabs_alloc hT _)).mono ?_; rintro e w4 ⟨A, c, rs, rfl, h1, h2, h3, h4, hb4⟩; have HB4 := Lib.hid hb4; have H3 := Lib.hid h3; have H4 := Lib.hid h4; clear h3 h4 hb4; obtain ⟨b0, f0, _⟩ := bx HB4.out; have d0 := b0 0; have d1 := f0 0; have d2 := b0 1; have d3 := f0 1; clear b0 f0)
  obtain ⟨g1, g2⟩ := tb_box2 (c := c) (k := 3) H3.out HB4.out
  refine bodyPost_ret (v := .tuple #[.agg #[.slice A rs.length c, .int .i64 3], .bool true]) (by simp [results, Tryd.results6, go_sem, d0, d2]) rfl ?_
  exact HP.out A c rs _ h1 h2 g1 H4.out g2
theorem SOf_0 (w : World) (hT : Tabs w) : Calls Tryd.prog 6 #[.int .i64 0] w (OfPost 0 w) := by
  have HP : Hid (∀ A c rs w', rs.length ≤ c → rs.length ≤ 4096 → TbR w' w'.heap.size A rs → prsT rs = setL 0 → Below w.heap.size w w' → OfPost 0 w (.returned (.tuple #[.agg #[.slice A rs.length c, .int .i64 0], .bool true])) w') := Lib.hid fun A c rs w' h1 h2 h3 h4 hb => ⟨A, c, rs, rfl, h1, h2, h3, h4, hb⟩
  generalize OfPost 0 w = P at *
  have htb := fun W h => STable_const lat_made (by decide) latP_ok 46 W h
  rw [show (latP.flatMap pV).toArray = #[.int .i64 0, .int .i32 0, .int .i64 256, .string ⟨#[]⟩] from rfl, show latP.length = 1 from rfl] at htb
  unfold TbPost at htb
  have hP0 : Hid (Below (w.alloc (.cells #[.slice none 0 0, .int .i64 0] 27)).heap.size (w.alloc (.cells #[.slice none 0 0, .int .i64 0] 27)) (w.alloc (.cells #[.slice none 0 0, .int .i64 0] 27)) ∧ Tabs (w.alloc (.cells #[.slice none 0 0, .int .i64 0] 27))) := Lib.hid ⟨Below.refl _ _, tabs_alloc hT _⟩
  go_enter Tryd.func6, Tryd.ntmps6
  go_wp2_with (first
    | (go_at_call 16; (with_reducible refine (Seq_any 0 0 256 _).mono ?_); rintro e w1 ⟨rfl, hb1⟩; have G1 := step_bt hP0 hb1; clear hb1)
    | (go_at_call 15; refine (htb _ G1.out.2).mono ?_; rintro e w4 ⟨A, c, rs, rfl, h1, h2, h3, h4, hb4⟩; have HB4 := Lib.hid (G1.out.1.trans ((below_a1 hb4).mono G1.out.1.size)); have H3 := Lib.hid h3; have H4 := Lib.hid h4; clear h3 h4 hb4; obtain ⟨b0, f0, _⟩ := bx HB4.out; have d0 := b0 0; have d1 := f0 0; have d2 := b0 1; have d3 := f0 1; clear b0 f0))
  obtain ⟨g1, g2⟩ := tb_box2 (c := c) (k := 0) H3.out HB4.out
  refine bodyPost_ret (v := .tuple #[.agg #[.slice A rs.length c, .int .i64 0], .bool true]) (by simp [results, Tryd.results6, go_sem, d0, d2]) rfl ?_
  exact HP.out A c rs _ h1 h2 g1 H4.out g2
theorem SOf_yes (c : Nat) (hc : c ≤ 3) (w : World) (hT : Tabs w) : Calls Tryd.prog 6 #[.int .i64 c] w (OfPost c w) := by
  obtain rfl | rfl | rfl | rfl : c = 0 ∨ c = 1 ∨ c = 2 ∨ c = 3 := by omega
  · exact SOf_0 w hT
  · exact SOf_1 w hT
  · exact SOf_2 w hT
  · exact SOf_3 w hT
theorem SOf_no (c : Int) (hc : c < 0 ∨ 3 < c) (w : World) : Calls Tryd.prog 6 #[.int .i64 c] w fun e w' => e = .returned (.tuple #[.agg #[.slice none 0 0, .int .i64 0], .bool false]) ∧ Below w.heap.size w w' := by
  have h0 : (c == 0) = false := by rw [beq_eq_false_iff_ne]; omega
  have h1 : (c == 1) = false := by rw [beq_eq_false_iff_ne]; omega
  have h2 : (c == 2) = false := by rw [beq_eq_false_iff_ne]; omega
  have h3 : (c == 3) = false := by rw [beq_eq_false_iff_ne]; omega
  have hP0 : Hid (Below w.heap.size w (w.alloc (.cells #[.slice none 0 0, .int .i64 0] 27))) := Lib.hid ((Below.refl _ _).alloc (Nat.le_refl _) _)
  go_enter Tryd.func6, Tryd.ntmps6
  go_wp2_with fail
  exact bodyPost_ret (v := .tuple #[.agg #[.slice none 0 0, .int .i64 0], .bool false]) (by simp [results, Tryd.results6, go_sem]) rfl ⟨rfl, by first | exact hP0.out | exact (hP0.out.setCell (Nat.le_refl _) _).setCell (Nat.le_refl _) _⟩
end Go.Proofs.YtpnjandlpbjddabDoor
