/- Laws RunTables and RunLooks; condition: the pieces lie as listed, with their signs. -/
import Derived.Test.YtmfnnggnnnagiaaDoorRV
set_option maxRecDepth 100000
set_option maxHeartbeats 4000000
namespace Go.Proofs.YtmfnnggnnnagiaaDoor
open Go Go.RowKit

theorem md_inr {l : List Pce} {k : Nat} (h : madeF [] l 0 = .inr k) : mdL l = [] ∧ mdAt l = k ∧ ftE l = 5 ∧ ftA l = k := by
  unfold mdL mdAt ftE ftA
  rw [h]
  exact ⟨rfl, rfl, rfl, rfl⟩
theorem md_inl {l : List Pce} {M : List Pr} (h : madeF [] l 0 = .inl M) : mdL l = M ∧ mdAt l = -1 ∧ ftE l = 0 ∧ ftA l = 0 := by
  unfold mdL mdAt ftE ftA
  rw [h]
  exact ⟨rfl, rfl, rfl, rfl⟩
theorem sz_prsT {rs : List (Rw × Sl)} {L : List Pr} (h : prsT rs = L) : szR rs = L.length := by rw [← h]; exact (szR_len rs).symm
section
variable {l : List Pce} {w : World} {A : Option Addr} {c : Nat}
theorem law_new (hL : LightP l) (hok : ∀ p ∈ l, PceOk p) (hT : Tabs w) (h : PcsL w w.heap.size A l) {L : List Pr} {fe fa : Int} (h1 : mdL l = L) (h2 : ftE l = fe) (h3 : ftA l = fa) (W : World) (hb : Below w.heap.size w W) :
    Calls Tryd.prog 9 #[.slice A l.length c] W fun e w' => ∃ A c rs, e = .returned (.tuple #[.agg #[.slice A rs.length c], .agg #[.int .i64 fe, .int .i64 fa]]) ∧ rs.length ≤ c ∧ rs.length ≤ 4096 ∧ TbR w' w'.heap.size A rs ∧ prsT rs = L ∧ Below W.heap.size W w' := by
  have := New_tb l A c (by have := hL.1; omega) (fun p hp => ⟨hok p hp, by have := (hL.2 p hp).2; omega⟩) W (Tabs_below hT hb (Nat.le_refl _)) ((h.below hb).more hb.size)
  unfold NtPost at this
  rw [h1, h2, h3] at this
  exact this
theorem law_made (hL : LightP l) (hok : ∀ p ∈ l, PceOk p) (h : PcsL w w.heap.size A l) {L : List Pr} {at_ : Int} (h1 : mdL l = L) (h2 : mdAt l = at_) (W : World) (hb : Below w.heap.size w W) :
    Calls Tryd.prog 10 #[.slice A l.length c] W fun e w' => ∃ A c, e = .returned (.tuple #[.slice A L.length c, .int .i64 at_]) ∧ L.length ≤ c ∧ PrsL w' w'.heap.size A L ∧ Below W.heap.size W w' := by
  have := made_any A c l hL hok W ((h.below hb).more hb.size)
  unfold MdPost at this
  rw [h1, h2] at this
  exact this
theorem law_light (hL : LightP l) (h : PcsL w w.heap.size A l) (W : World) (hb : Below w.heap.size w W) :
    Calls Tryd.prog 7 #[.slice A l.length c] W fun e w' => e = .returned (.bool true) ∧ Below W.heap.size W w' := by
  have := Light_any A c l W ((h.below hb).more hb.size)
  rw [decide_eq_true hL] at this
  exact this
theorem law_dark (hL : ¬ LightP l) (h : PcsL w w.heap.size A l) (W : World) (hb : Below w.heap.size w W) :
    Calls Tryd.prog 7 #[.slice A l.length c] W fun e w' => e = .returned (.bool false) ∧ Below W.heap.size W w' := by
  have := Light_any A c l W ((h.below hb).more hb.size)
  rw [decide_eq_false hL] at this
  exact this
end
theorem find_both {α : Type} (l : List α) (p : α → Bool) : (∃ i x, l[i]? = some x ∧ l.findIdx? p = some i ∧ l.find? p = some x) ∨ (l.findIdx? p = none ∧ l.find? p = none) := by
  cases h : l.findIdx? p with
  | none =>
    rw [List.findIdx?_eq_none_iff] at h
    refine .inr ⟨rfl, List.find?_eq_none.2 fun x hx => by simp [h x hx]⟩
  | some i =>
    rw [List.findIdx?_eq_some_iff_getElem] at h
    obtain ⟨h1, h2, h3⟩ := h
    refine .inl ⟨i, l[i], List.getElem?_eq_getElem h1, rfl, ?_⟩
    rw [List.find?_eq_some_iff_getElem]
    exact ⟨h2, i, h1, rfl, fun j hj => by simpa using h3 j hj⟩
theorem RunTables_law (l : List Pce) (A : Option Addr) (c : Nat) (hok : ∀ p ∈ l, PceOk p) (w : World) (hT : Tabs w) (h : PcsL w w.heap.size A l) :
    Calls Tryd.prog 4 #[.slice A l.length c] w fun e w' => e = .returned (.bool true) ∧ Below w.heap.size w w' := by
  have HP : Hid (∀ w', Below w.heap.size w w' → (fun e w' => e = Ending.returned (.bool true) ∧ Below w.heap.size w w') (.returned (.bool true)) w') := Lib.hid fun w' hb => ⟨rfl, hb⟩
  generalize (fun (e : Ending) (w' : World) => e = Ending.returned (.bool true) ∧ Below w.heap.size w w') = P at *
  have haw := fun W (hb : Below w.heap.size w W) => awake4 W (Tabs_below hT hb (Nat.le_refl _))
  by_cases hL : LightP l
  · have hLt := law_light (c := c) hL h w (Below.refl _ _)
    cases hm : madeF [] l 0 with
    | inr k =>
      obtain ⟨m1, m2, m3, m4⟩ := md_inr hm
      have hN := law_new (c := c) hL hok hT h m1 m3 m4
      have hM := law_made (c := c) hL hok h m1 m2
      have hge : (0 : Int) ≤ (k : Int) := by omega
      clear m1 m2 m3 m4 hm hok h hL
      go_enter Tryd.func4, Tryd.ntmps4
      go_wp2_with (first
        | (go_at_call 7; refine hLt.mono ?_; rintro e w1 ⟨rfl, hb1⟩; have HB1 := Lib.hid hb1; clear hLt hb1)
        | (go_at_call 9; refine (hN _ HB1.out).mono ?_; rintro e w2 ⟨A2, c2, rs, rfl, h12, h22, h32, h42, hb2⟩; have HB2 := Lib.hid (HB1.out.trans (hb2.mono HB1.out.size)); have H32 := Lib.hid (tb_a2 h32); have hsz := sz_prsT h42; have H42 := Lib.hid h42; clear hN h32 h42 hb2)
        | (go_at_call 10; refine (hM _ ((HB2.out.alloc HB2.out.size _).alloc (by have := HB2.out.size; simp; omega) _)).mono ?_; rintro e w3 ⟨A3, c3, rfl, h13, h33, hb3⟩; have HB3 := Lib.hid hb3; have HW3 := Lib.hid (HB2.out.trans ((below_a2 hb3).mono HB2.out.size)); have H33 := Lib.hid h33; clear hM h33 hb3; obtain ⟨a0, a1, a2, _⟩ := bx22 HB3.out)
        | (go_at_call 8; refine (haw _ HW3.out).mono ?_; rintro e w4 ⟨rfl, hb4⟩; have HB4 := Lib.hid (HB3.out.trans (hb4.mono HB3.out.size)); have HW4 := Lib.hid (HW3.out.trans (hb4.mono HW3.out.size)); clear a0 a1 a2; obtain ⟨a0, a1, a2, _⟩ := bx22 HB4.out)
        | (go_at_call 16; refine (Size_any A2 c2 rs (by omega) _ (((H32.out _ _).below HB4.out).more HB4.out.size)).mono ?_; rintro e w5 ⟨rfl, hb5⟩; have HW5 := Lib.hid (HW4.out.trans (hb5.mono HW4.out.size)); rw [hsz]))
      exact HP.out _ HW5.out
    | inl M =>
      obtain ⟨m1, m2, m3, m4⟩ := md_inl hm
      have hN := law_new (c := c) hL hok hT h m1 m3 m4
      have hM := law_made (c := c) hL hok h m1 m2
      clear m1 m2 m3 m4 hm hok h hL
      go_enter Tryd.func4, Tryd.ntmps4
      go_wp2_with (first
        | (go_at_call 7; refine hLt.mono ?_; rintro e w1 ⟨rfl, hb1⟩; have HB1 := Lib.hid hb1; clear hLt hb1)
        | (go_at_call 9; refine (hN _ HB1.out).mono ?_; rintro e w2 ⟨A2, c2, rs, rfl, h12, h22, h32, h42, hb2⟩; have HB2 := Lib.hid (HB1.out.trans (hb2.mono HB1.out.size)); have H32 := Lib.hid (tb_a2 h32); have H42 := Lib.hid h42; clear hN h32 h42 hb2)
        | (go_at_call 10; refine (hM _ ((HB2.out.alloc HB2.out.size _).alloc (by have := HB2.out.size; simp; omega) _)).mono ?_; rintro e w3 ⟨A3, c3, rfl, h13, h33, hb3⟩; have HB3 := Lib.hid hb3; have HW3 := Lib.hid (HB2.out.trans ((below_a2 hb3).mono HB2.out.size)); have H33 := Lib.hid h33; clear hM h33 hb3; obtain ⟨a0, a1, a2, _⟩ := bx22 HB3.out)
        | (go_at_call 8; refine (haw _ HW3.out).mono ?_; rintro e w4 ⟨rfl, hb4⟩; have HB4 := Lib.hid (HB3.out.trans (hb4.mono HB3.out.size)); have HW4 := Lib.hid (HW3.out.trans (hb4.mono HW3.out.size)); clear a0 a1 a2; obtain ⟨a0, a1, a2, _⟩ := bx22 HB4.out)
        | (go_at_call 11; refine (Bad_any 0 0 _).mono ?_; rintro e w5 ⟨rfl, hb5⟩; have HB5 := Lib.hid (HB4.out.trans (hb5.mono HB4.out.size)); have HW5 := Lib.hid (HW4.out.trans (hb5.mono HW4.out.size)); clear a0 a1 a2; obtain ⟨a0, a1, a2, _⟩ := bx22 HB5.out)
        | (go_at_call 17; refine (Is_any A2 A3 c2 c3 rs M H42.out (by omega) _ (((H32.out _ _).below HB5.out).more HB5.out.size) ((H33.out.below (hb4.trans (hb5.mono hb4.size))).more (by have := hb4.size; have := hb5.size; omega))).mono ?_; rintro e w6 ⟨rfl, hb6⟩))
      exact HP.out _ (HW5.out.trans (hb6.mono HW5.out.size))
  · have hLt := law_dark (c := c) hL h w (Below.refl _ _)
    go_enter Tryd.func4, Tryd.ntmps4
    go_wp2_with (first
      | (go_at_call 7; refine hLt.mono ?_; rintro e w1 ⟨rfl, hb1⟩)
      | (go_at_call 8; refine (haw _ hb1).mono ?_; rintro e w4 ⟨rfl, hb4⟩))
    exact HP.out _ (hb1.trans (hb4.mono hb1.size))
section
variable {M : List Pr} {code : Int} {p : Int}
theorem fw_some {x : Pr} (hf : (M.find? fun x => decide ((x.1 : Int) = code)) = some x) (A : Option Addr) (c : Nat) (rs : List (Rw × Sl)) (w : World) (hM : prsT rs = M) (hn : rs.length ≤ 35184372089000) (h : TbR w w.heap.size A rs) :
    Calls Tryd.prog 12 #[.agg #[.slice A rs.length c], .int .i64 code] w fun e w' => e = .returned (.tuple #[.int .i32 x.2, .bool true]) ∧ Below w.heap.size w w' := by
  have h1 := Forward_any A c rs code hn w h
  unfold FdPost fwdR at h1
  rw [show (rs.map (·.1)).flatMap prs = _ from hM, hf] at h1
  exact h1
theorem fw_none (hf : (M.find? fun x => decide ((x.1 : Int) = code)) = none) (A : Option Addr) (c : Nat) (rs : List (Rw × Sl)) (w : World) (hM : prsT rs = M) (hn : rs.length ≤ 35184372089000) (h : TbR w w.heap.size A rs) :
    Calls Tryd.prog 12 #[.agg #[.slice A rs.length c], .int .i64 code] w fun e w' => e = .returned (.tuple #[.int .i32 0, .bool false]) ∧ Below w.heap.size w w' := by
  have h1 := Forward_any A c rs code hn w h
  unfold FdPost fwdR at h1
  rw [show (rs.map (·.1)).flatMap prs = _ from hM, hf] at h1
  exact h1
theorem fn_some {i : Nat} (hf : (M.findIdx? fun x => decide ((x.1 : Int) = code)) = some i) (hn : M.length ≤ 35184372089000) (A : Option Addr) (c : Nat) (w : World) (h : PrsL w w.heap.size A M) :
    Calls Tryd.prog 13 #[.slice A M.length c, .int .i64 code] w fun e w' => e = .returned (.int .i64 (i : Int)) ∧ Below w.heap.size w w' := by
  have h1 := RFind_any A c M code hn w h
  unfold fndL at h1
  rw [hf] at h1
  exact h1
theorem fn_none (hf : (M.findIdx? fun x => decide ((x.1 : Int) = code)) = none) (hn : M.length ≤ 35184372089000) (A : Option Addr) (c : Nat) (w : World) (h : PrsL w w.heap.size A M) :
    Calls Tryd.prog 13 #[.slice A M.length c, .int .i64 code] w fun e w' => e = .returned (.int .i64 (-1)) ∧ Below w.heap.size w w' := by
  have h1 := RFind_any A c M code hn w h
  unfold fndL at h1
  rw [hf] at h1
  exact h1
theorem rv_some {y : Pr} (hp : -2147483648 ≤ p ∧ p < 2147483648) (hf : (M.find? fun x => x.2 == p) = some y) (A : Option Addr) (c : Nat) (rs : List (Rw × Sl)) (w : World) (hM : prsT rs = M) (hn : rs.length ≤ 35184372089000) (h : TbR w w.heap.size A rs) :
    Calls Tryd.prog 14 #[.agg #[.slice A rs.length c], .int .i32 p] w fun e w' => e = .returned (.tuple #[.int .i64 (y.1 : Int), .bool true]) ∧ Below w.heap.size w w' := by
  have h1 := Reverse_any A c rs p hp hn w h
  rw [revR_eq, show (rs.map (·.1)).flatMap prs = _ from hM, hf] at h1
  exact h1
theorem rv_none (hp : -2147483648 ≤ p ∧ p < 2147483648) (hf : (M.find? fun x => x.2 == p) = none) (A : Option Addr) (c : Nat) (rs : List (Rw × Sl)) (w : World) (hM : prsT rs = M) (hn : rs.length ≤ 35184372089000) (h : TbR w w.heap.size A rs) :
    Calls Tryd.prog 14 #[.agg #[.slice A rs.length c], .int .i32 p] w fun e w' => e = .returned (.tuple #[.int .i64 0, .bool false]) ∧ Below w.heap.size w w' := by
  have h1 := Reverse_any A c rs p hp hn w h
  rw [revR_eq, show (rs.map (·.1)).flatMap prs = _ from hM, hf] at h1
  exact h1
theorem rr_some {y : Pr} (hf : (M.find? fun x => x.2 == p) = some y) (hn : M.length ≤ 35184372089000) (A : Option Addr) (c : Nat) (w : World) (h : PrsL w w.heap.size A M) :
    Calls Tryd.prog 15 #[.slice A M.length c, .int .i32 p] w fun e w' => e = .returned (.int .i64 (y.1 : Int)) ∧ Below w.heap.size w w' := by
  have h1 := RReverse_any A c M p hn w h
  unfold revP at h1
  rw [hf] at h1
  exact h1
theorem rr_none (hf : (M.find? fun x => x.2 == p) = none) (hn : M.length ≤ 35184372089000) (A : Option Addr) (c : Nat) (w : World) (h : PrsL w w.heap.size A M) :
    Calls Tryd.prog 15 #[.slice A M.length c, .int .i32 p] w fun e w' => e = .returned (.int .i64 (-1)) ∧ Below w.heap.size w w' := by
  have h1 := RReverse_any A c M p hn w h
  unfold revP at h1
  rw [hf] at h1
  exact h1
end
theorem made_le {l : List Pce} {M : List Pr} (hok : ∀ p ∈ l, PceOk p) (h : madeF [] l 0 = .inl M) : M.length ≤ 1048576 := by
  obtain ⟨rs', M', h1, h2, h3⟩ | ⟨k, _, h2⟩ := new_made l [] [] 0 hok told_nil
  · rw [h] at h2; injection h2 with h2; subst h2
    have hs := h3.2.2.1
    have hlt : ∀ x ∈ M, x.1 < 1048576 := fun x hx => by
      obtain ⟨r, hr, hxr⟩ := (h3.2.2.2 x).1 hx
      have := (mem_prs.1 hxr).2.1
      have := (h3.2.1 r hr).2.1
      omega
    have hlen : ∀ (L : List Pr) (lo : Nat), L.Pairwise (fun a b => a.1 < b.1) → (∀ x ∈ L, lo ≤ x.1 ∧ x.1 < 1048576) → L.length + lo ≤ 1048576 ∨ L = [] := by
      intro L
      induction L with
      | nil => intro lo _ _; exact .inr rfl
      | cons a L ih =>
        intro lo hp hx
        rw [List.pairwise_cons] at hp
        have ha := hx a (by simp)
        left
        rcases ih (a.1 + 1) hp.2 (fun x hxm => ⟨hp.1 x hxm, (hx x (by simp [hxm])).2⟩) with h4 | h4
        · rw [List.length_cons]; omega
        · rw [h4]; simp; omega
    rcases hlen M 0 hs (fun x hx => ⟨Nat.zero_le _, hlt x hx⟩) with h4 | h4
    · omega
    · rw [h4]; simp
  · rw [h] at h2; cases h2
theorem RunLooks_law (l : List Pce) (A : Option Addr) (c : Nat) (code p : Int) (hp : -2147483648 ≤ p ∧ p < 2147483648) (hok : ∀ p ∈ l, PceOk p) (w : World) (hT : Tabs w) (h : PcsL w w.heap.size A l) :
    Calls Tryd.prog 3 #[.slice A l.length c, .int .i64 code, .int .i32 p] w fun e w' => e = .returned (.bool true) ∧ Below w.heap.size w w' := by
  have HP : Hid (∀ w', Below w.heap.size w w' → (fun e w' => e = Ending.returned (.bool true) ∧ Below w.heap.size w w') (.returned (.bool true)) w') := Lib.hid fun w' hb => ⟨rfl, hb⟩
  generalize (fun (e : Ending) (w' : World) => e = Ending.returned (.bool true) ∧ Below w.heap.size w w') = P at *
  have haw := fun W (hb : Below w.heap.size w W) => awake4 W (Tabs_below hT hb (Nat.le_refl _))
  by_cases hL : LightP l
  · have hLt := law_light (c := c) hL h w (Below.refl _ _)
    cases hm : madeF [] l 0 with
    | inr k =>
      obtain ⟨m1, m2, m3, m4⟩ := md_inr hm
      have hN := law_new (c := c) hL hok hT h m1 m3 m4
      have hM := law_made (c := c) hL hok h m1 m2
      have hge : (0 : Int) ≤ (k : Int) := by omega
      clear m1 m2 m3 m4 hm hok h hL
      go_enter Tryd.func3, Tryd.ntmps3
      go_wp2_with (first
        | (go_at_call 7; refine hLt.mono ?_; rintro e w1 ⟨rfl, hb1⟩; have HB1 := Lib.hid hb1; clear hLt hb1)
        | (go_at_call 9; refine (hN _ HB1.out).mono ?_; rintro e w2 ⟨A2, c2, rs, rfl, h12, h22, h32, h42, hb2⟩; have HB2 := Lib.hid (HB1.out.trans (hb2.mono HB1.out.size)); have H32 := Lib.hid (tb_a2 h32); have H42 := Lib.hid h42; clear hN h32 h42 hb2)
        | (go_at_call 10; refine (hM _ ((HB2.out.alloc HB2.out.size _).alloc (by have := HB2.out.size; simp; omega) _)).mono ?_; rintro e w3 ⟨A3, c3, rfl, h13, h33, hb3⟩; have HB3 := Lib.hid hb3; have HW3 := Lib.hid (HB2.out.trans ((below_a2 hb3).mono HB2.out.size)); have H33 := Lib.hid h33; clear hM h33 hb3; obtain ⟨a0, a1, a2, _⟩ := bx22 HB3.out)
        | (go_at_call 8; refine (haw _ HW3.out).mono ?_; rintro e w4 ⟨rfl, hb4⟩; have HB4 := Lib.hid (HB3.out.trans (hb4.mono HB3.out.size)); have HW4 := Lib.hid (HW3.out.trans (hb4.mono HW3.out.size)); clear a0 a1 a2; obtain ⟨a0, a1, a2, _⟩ := bx22 HB4.out)
        | (go_at_call 11; refine (Bad_any 5 k _).mono ?_; rintro e w5 ⟨rfl, hb5⟩; have HB5 := Lib.hid (HB4.out.trans (hb5.mono HB4.out.size)); have HW5 := Lib.hid (HW4.out.trans (hb5.mono HW4.out.size)); clear a0 a1 a2; obtain ⟨a0, a1, a2, _⟩ := bx22 HB5.out))
      exact HP.out _ HW5.out
    | inl M =>
      obtain ⟨m1, m2, m3, m4⟩ := md_inl hm
      have hN := law_new (c := c) hL hok hT h m1 m3 m4
      have hM := law_made (c := c) hL hok h m1 m2
      have hle := made_le hok hm
      clear m1 m2 m3 m4 hm hok h hL
      rcases find_both M (fun x => decide ((x.1 : Int) = code)) with ⟨i, x, hx, hf0, hf⟩ | ⟨hf0, hf⟩
      · cases hr : M.find? fun x => x.2 == p with
        | some y =>
          have hFw := fw_some (code := code) hf
          have hFn := fn_some (code := code) hf0 (by omega)
          have hRv := rv_some (p := p) hp hr
          have hRr := rr_some (p := p) hr (by omega)
          have hge : (0 : Int) ≤ (i : Int) := by omega
          have hiM : i < M.length := (List.getElem?_eq_some_iff.1 hx).1
          have hge2 : (0 : Int) ≤ (y.1 : Int) := by omega
          clear hf hf0 hr
          go_enter Tryd.func3, Tryd.ntmps3
          go_wp2_with (first
            | (go_at_call 7; refine hLt.mono ?_; rintro e w1 ⟨rfl, hb1⟩; have HB1 := Lib.hid hb1; clear hLt hb1)
            | (go_at_call 9; refine (hN _ HB1.out).mono ?_; rintro e w2 ⟨A2, c2, rs, rfl, h12, h22, h32, h42, hb2⟩; have HB2 := Lib.hid (HB1.out.trans (hb2.mono HB1.out.size)); have H32 := Lib.hid (tb_a2 h32); have H42 := Lib.hid h42; clear hN h32 h42 hb2)
            | (go_at_call 10; refine (hM _ ((HB2.out.alloc HB2.out.size _).alloc (by have := HB2.out.size; simp; omega) _)).mono ?_; rintro e w3 ⟨A3, c3, rfl, h13, h33, hb3⟩; have HB3 := Lib.hid hb3; have HW3 := Lib.hid (HB2.out.trans ((below_a2 hb3).mono HB2.out.size)); have H33 := Lib.hid h33; clear hM h33 hb3; obtain ⟨a0, a1, a2, _⟩ := bx22 HB3.out)
            | (go_at_call 12; refine (hFw _ _ rs _ H42.out (by omega) ((((H32.out _ _).below HB3.out).more HB3.out.size))).mono ?_; rintro e w4 ⟨rfl, hb4⟩; have HB4 := Lib.hid (HB3.out.trans (hb4.mono HB3.out.size)); have HW4 := Lib.hid (HW3.out.trans (hb4.mono HW3.out.size)); clear a0 a1 a2; obtain ⟨a0, a1, a2, _⟩ := bx22 HB4.out; have H34 := Lib.hid ((H33.out.below hb4).more hb4.size))
            | (go_at_call 13; refine (hFn _ _ _ H34.out).mono ?_; rintro e w5 ⟨rfl, hb5⟩; have HB5 := Lib.hid (HB4.out.trans (hb5.mono HB4.out.size)); have HW5 := Lib.hid (HW4.out.trans (hb5.mono HW4.out.size)); clear a0 a1 a2; obtain ⟨a0, a1, a2, _⟩ := bx22 HB5.out; have H35 := Lib.hid ((H34.out.below hb5).more hb5.size); obtain ⟨ad, hAd, hadb, z0, z1, _⟩ := H35.out.pair hx; subst hAd)
            | (go_at_call 14; refine (hRv _ _ rs _ H42.out (by omega) ((((H32.out _ _).below HB5.out).more HB5.out.size))).mono ?_; rintro e w6 ⟨rfl, hb6⟩; have HB6 := Lib.hid (HB5.out.trans (hb6.mono HB5.out.size)); have HW6 := Lib.hid (HW5.out.trans (hb6.mono HW5.out.size)); clear a0 a1 a2; obtain ⟨a0, a1, a2, _⟩ := bx22 HB6.out; have H36 := Lib.hid ((H35.out.below hb6).more hb6.size))
            | (go_at_call 15; refine (hRr _ _ _ H36.out).mono ?_; rintro e w7 ⟨rfl, hb7⟩; have HB7 := Lib.hid (HB6.out.trans (hb7.mono HB6.out.size)); have HW7 := Lib.hid (HW6.out.trans (hb7.mono HW6.out.size)); clear a0 a1 a2; obtain ⟨a0, a1, a2, _⟩ := bx22 HB7.out)
            | (go_at_call 8; refine (haw _ HW7.out).mono ?_; rintro e w8 ⟨rfl, hb8⟩; have HB8 := Lib.hid (HB7.out.trans (hb8.mono HB7.out.size)); have HW8 := Lib.hid (HW7.out.trans (hb8.mono HW7.out.size)); clear a0 a1 a2; obtain ⟨a0, a1, a2, _⟩ := bx22 HB8.out))
          exact HP.out _ HW8.out
        | none =>
          have hFw := fw_some (code := code) hf
          have hFn := fn_some (code := code) hf0 (by omega)
          have hRv := rv_none (p := p) hp hr
          have hRr := rr_none (p := p) hr (by omega)
          have hge : (0 : Int) ≤ (i : Int) := by omega
          have hiM : i < M.length := (List.getElem?_eq_some_iff.1 hx).1
          clear hf hf0 hr
          go_enter Tryd.func3, Tryd.ntmps3
          go_wp2_with (first
            | (go_at_call 7; refine hLt.mono ?_; rintro e w1 ⟨rfl, hb1⟩; have HB1 := Lib.hid hb1; clear hLt hb1)
            | (go_at_call 9; refine (hN _ HB1.out).mono ?_; rintro e w2 ⟨A2, c2, rs, rfl, h12, h22, h32, h42, hb2⟩; have HB2 := Lib.hid (HB1.out.trans (hb2.mono HB1.out.size)); have H32 := Lib.hid (tb_a2 h32); have H42 := Lib.hid h42; clear hN h32 h42 hb2)
            | (go_at_call 10; refine (hM _ ((HB2.out.alloc HB2.out.size _).alloc (by have := HB2.out.size; simp; omega) _)).mono ?_; rintro e w3 ⟨A3, c3, rfl, h13, h33, hb3⟩; have HB3 := Lib.hid hb3; have HW3 := Lib.hid (HB2.out.trans ((below_a2 hb3).mono HB2.out.size)); have H33 := Lib.hid h33; clear hM h33 hb3; obtain ⟨a0, a1, a2, _⟩ := bx22 HB3.out)
            | (go_at_call 12; refine (hFw _ _ rs _ H42.out (by omega) ((((H32.out _ _).below HB3.out).more HB3.out.size))).mono ?_; rintro e w4 ⟨rfl, hb4⟩; have HB4 := Lib.hid (HB3.out.trans (hb4.mono HB3.out.size)); have HW4 := Lib.hid (HW3.out.trans (hb4.mono HW3.out.size)); clear a0 a1 a2; obtain ⟨a0, a1, a2, _⟩ := bx22 HB4.out; have H34 := Lib.hid ((H33.out.below hb4).more hb4.size))
            | (go_at_call 13; refine (hFn _ _ _ H34.out).mono ?_; rintro e w5 ⟨rfl, hb5⟩; have HB5 := Lib.hid (HB4.out.trans (hb5.mono HB4.out.size)); have HW5 := Lib.hid (HW4.out.trans (hb5.mono HW4.out.size)); clear a0 a1 a2; obtain ⟨a0, a1, a2, _⟩ := bx22 HB5.out; have H35 := Lib.hid ((H34.out.below hb5).more hb5.size); obtain ⟨ad, hAd, hadb, z0, z1, _⟩ := H35.out.pair hx; subst hAd)
            | (go_at_call 14; refine (hRv _ _ rs _ H42.out (by omega) ((((H32.out _ _).below HB5.out).more HB5.out.size))).mono ?_; rintro e w6 ⟨rfl, hb6⟩; have HB6 := Lib.hid (HB5.out.trans (hb6.mono HB5.out.size)); have HW6 := Lib.hid (HW5.out.trans (hb6.mono HW5.out.size)); clear a0 a1 a2; obtain ⟨a0, a1, a2, _⟩ := bx22 HB6.out; have H36 := Lib.hid ((H35.out.below hb6).more hb6.size))
            | (go_at_call 15; refine (hRr _ _ _ H36.out).mono ?_; rintro e w7 ⟨rfl, hb7⟩; have HB7 := Lib.hid (HB6.out.trans (hb7.mono HB6.out.size)); have HW7 := Lib.hid (HW6.out.trans (hb7.mono HW6.out.size)); clear a0 a1 a2; obtain ⟨a0, a1, a2, _⟩ := bx22 HB7.out)
            | (go_at_call 8; refine (haw _ HW7.out).mono ?_; rintro e w8 ⟨rfl, hb8⟩; have HB8 := Lib.hid (HB7.out.trans (hb8.mono HB7.out.size)); have HW8 := Lib.hid (HW7.out.trans (hb8.mono HW7.out.size)); clear a0 a1 a2; obtain ⟨a0, a1, a2, _⟩ := bx22 HB8.out))
          exact HP.out _ HW8.out
      · cases hr : M.find? fun x => x.2 == p with
        | some y =>
          have hFw := fw_none (code := code) hf
          have hFn := fn_none (code := code) hf0 (by omega)
          have hRv := rv_some (p := p) hp hr
          have hRr := rr_some (p := p) hr (by omega)
          have hge2 : (0 : Int) ≤ (y.1 : Int) := by omega
          clear hf hf0 hr
          go_enter Tryd.func3, Tryd.ntmps3
          go_wp2_with (first
            | (go_at_call 7; refine hLt.mono ?_; rintro e w1 ⟨rfl, hb1⟩; have HB1 := Lib.hid hb1; clear hLt hb1)
            | (go_at_call 9; refine (hN _ HB1.out).mono ?_; rintro e w2 ⟨A2, c2, rs, rfl, h12, h22, h32, h42, hb2⟩; have HB2 := Lib.hid (HB1.out.trans (hb2.mono HB1.out.size)); have H32 := Lib.hid (tb_a2 h32); have H42 := Lib.hid h42; clear hN h32 h42 hb2)
            | (go_at_call 10; refine (hM _ ((HB2.out.alloc HB2.out.size _).alloc (by have := HB2.out.size; simp; omega) _)).mono ?_; rintro e w3 ⟨A3, c3, rfl, h13, h33, hb3⟩; have HB3 := Lib.hid hb3; have HW3 := Lib.hid (HB2.out.trans ((below_a2 hb3).mono HB2.out.size)); have H33 := Lib.hid h33; clear hM h33 hb3; obtain ⟨a0, a1, a2, _⟩ := bx22 HB3.out)
            | (go_at_call 12; refine (hFw _ _ rs _ H42.out (by omega) ((((H32.out _ _).below HB3.out).more HB3.out.size))).mono ?_; rintro e w4 ⟨rfl, hb4⟩; have HB4 := Lib.hid (HB3.out.trans (hb4.mono HB3.out.size)); have HW4 := Lib.hid (HW3.out.trans (hb4.mono HW3.out.size)); clear a0 a1 a2; obtain ⟨a0, a1, a2, _⟩ := bx22 HB4.out; have H34 := Lib.hid ((H33.out.below hb4).more hb4.size))
            | (go_at_call 13; refine (hFn _ _ _ H34.out).mono ?_; rintro e w5 ⟨rfl, hb5⟩; have HB5 := Lib.hid (HB4.out.trans (hb5.mono HB4.out.size)); have HW5 := Lib.hid (HW4.out.trans (hb5.mono HW4.out.size)); clear a0 a1 a2; obtain ⟨a0, a1, a2, _⟩ := bx22 HB5.out; have H35 := Lib.hid ((H34.out.below hb5).more hb5.size))
            | (go_at_call 14; refine (hRv _ _ rs _ H42.out (by omega) ((((H32.out _ _).below HB5.out).more HB5.out.size))).mono ?_; rintro e w6 ⟨rfl, hb6⟩; have HB6 := Lib.hid (HB5.out.trans (hb6.mono HB5.out.size)); have HW6 := Lib.hid (HW5.out.trans (hb6.mono HW5.out.size)); clear a0 a1 a2; obtain ⟨a0, a1, a2, _⟩ := bx22 HB6.out; have H36 := Lib.hid ((H35.out.below hb6).more hb6.size))
            | (go_at_call 15; refine (hRr _ _ _ H36.out).mono ?_; rintro e w7 ⟨rfl, hb7⟩; have HB7 := Lib.hid (HB6.out.trans (hb7.mono HB6.out.size)); have HW7 := Lib.hid (HW6.out.trans (hb7.mono HW6.out.size)); clear a0 a1 a2; obtain ⟨a0, a1, a2, _⟩ := bx22 HB7.out)
            | (go_at_call 8; refine (haw _ HW7.out).mono ?_; rintro e w8 ⟨rfl, hb8⟩; have HB8 := Lib.hid (HB7.out.trans (hb8.mono HB7.out.size)); have HW8 := Lib.hid (HW7.out.trans (hb8.mono HW7.out.size)); clear a0 a1 a2; obtain ⟨a0, a1, a2, _⟩ := bx22 HB8.out))
          exact HP.out _ HW8.out
        | none =>
          have hFw := fw_none (code := code) hf
          have hFn := fn_none (code := code) hf0 (by omega)
          have hRv := rv_none (p := p) hp hr
          have hRr := rr_none (p := p) hr (by omega)
          clear hf hf0 hr
          go_enter Tryd.func3, Tryd.ntmps3
          go_wp2_with (first
            | (go_at_call 7; refine hLt.mono ?_; rintro e w1 ⟨rfl, hb1⟩; have HB1 := Lib.hid hb1; clear hLt hb1)
            | (go_at_call 9; refine (hN _ HB1.out).mono ?_; rintro e w2 ⟨A2, c2, rs, rfl, h12, h22, h32, h42, hb2⟩; have HB2 := Lib.hid (HB1.out.trans (hb2.mono HB1.out.size)); have H32 := Lib.hid (tb_a2 h32); have H42 := Lib.hid h42; clear hN h32 h42 hb2)
            | (go_at_call 10; refine (hM _ ((HB2.out.alloc HB2.out.size _).alloc (by have := HB2.out.size; simp; omega) _)).mono ?_; rintro e w3 ⟨A3, c3, rfl, h13, h33, hb3⟩; have HB3 := Lib.hid hb3; have HW3 := Lib.hid (HB2.out.trans ((below_a2 hb3).mono HB2.out.size)); have H33 := Lib.hid h33; clear hM h33 hb3; obtain ⟨a0, a1, a2, _⟩ := bx22 HB3.out)
            | (go_at_call 12; refine (hFw _ _ rs _ H42.out (by omega) ((((H32.out _ _).below HB3.out).more HB3.out.size))).mono ?_; rintro e w4 ⟨rfl, hb4⟩; have HB4 := Lib.hid (HB3.out.trans (hb4.mono HB3.out.size)); have HW4 := Lib.hid (HW3.out.trans (hb4.mono HW3.out.size)); clear a0 a1 a2; obtain ⟨a0, a1, a2, _⟩ := bx22 HB4.out; have H34 := Lib.hid ((H33.out.below hb4).more hb4.size))
            | (go_at_call 13; refine (hFn _ _ _ H34.out).mono ?_; rintro e w5 ⟨rfl, hb5⟩; have HB5 := Lib.hid (HB4.out.trans (hb5.mono HB4.out.size)); have HW5 := Lib.hid (HW4.out.trans (hb5.mono HW4.out.size)); clear a0 a1 a2; obtain ⟨a0, a1, a2, _⟩ := bx22 HB5.out; have H35 := Lib.hid ((H34.out.below hb5).more hb5.size))
            | (go_at_call 14; refine (hRv _ _ rs _ H42.out (by omega) ((((H32.out _ _).below HB5.out).more HB5.out.size))).mono ?_; rintro e w6 ⟨rfl, hb6⟩; have HB6 := Lib.hid (HB5.out.trans (hb6.mono HB5.out.size)); have HW6 := Lib.hid (HW5.out.trans (hb6.mono HW5.out.size)); clear a0 a1 a2; obtain ⟨a0, a1, a2, _⟩ := bx22 HB6.out; have H36 := Lib.hid ((H35.out.below hb6).more hb6.size))
            | (go_at_call 15; refine (hRr _ _ _ H36.out).mono ?_; rintro e w7 ⟨rfl, hb7⟩; have HB7 := Lib.hid (HB6.out.trans (hb7.mono HB6.out.size)); have HW7 := Lib.hid (HW6.out.trans (hb7.mono HW6.out.size)); clear a0 a1 a2; obtain ⟨a0, a1, a2, _⟩ := bx22 HB7.out)
            | (go_at_call 8; refine (haw _ HW7.out).mono ?_; rintro e w8 ⟨rfl, hb8⟩; have HB8 := Lib.hid (HB7.out.trans (hb8.mono HB7.out.size)); have HW8 := Lib.hid (HW7.out.trans (hb8.mono HW7.out.size)); clear a0 a1 a2; obtain ⟨a0, a1, a2, _⟩ := bx22 HB8.out))
          exact HP.out _ HW8.out
  · have hLt := law_dark (c := c) hL h w (Below.refl _ _)
    go_enter Tryd.func3, Tryd.ntmps3
    go_wp2_with (first
      | (go_at_call 7; refine hLt.mono ?_; rintro e w1 ⟨rfl, hb1⟩)
      | (go_at_call 8; refine (haw _ hb1).mono ?_; rintro e w4 ⟨rfl, hb4⟩))
    exact HP.out _ (hb1.trans (hb4.mono hb1.size))
end Go.Proofs.YtmfnnggnnnagiaaDoor
