/- Contract of big5.Bytes, for every list of numbers; condition: at most 1,000; the cell of the library's MaxLen holds some int. -/
import Derived.Test.YtnalckiibcbgoaaB7
import Derived.Test.YtnalckiibcbgoaaLin
set_option maxRecDepth 100000
set_option maxHeartbeats 4000000
namespace Go.Proofs.Ytnalckiibcbgoaa
open Go Go.RowKit

def twoB : List (Int × Int × Int) → List Int → Int
  | [], _ => -1
  | t :: r, l => if 1 < l.length ∧ l.getD 0 0 = t.2.1 ∧ l.getD 1 0 = t.2.2 then t.1 else twoB r l
theorem twoB_step {k : Nat} (h : k < 4) (l : List Int) : twoB (TW.drop k) l = if 1 < l.length ∧ l.getD 0 0 = tw2 k ∧ l.getD 1 0 = tw3 k then tw1 k else twoB (TW.drop (k + 1)) l := by
  have hl : k < TW.length := by simpa [TW] using h
  rw [List.drop_eq_getElem_cons hl]
  simp only [twoB, tw1, tw2, tw3, List.getD_eq_getElem?_getD, List.getElem?_eq_getElem hl, Option.getD_some]
def codeB (c : Int) : List UInt8 := [(c / 256).toNat.toUInt8, (c % 256).toNat.toUInt8]
theorem codeB_of {a b : Int} (hb : 0 ≤ b ∧ b ≤ 255) : codeB (a * 256 + b) = [a.toNat.toUInt8, b.toNat.toUInt8] := by
  unfold codeB
  rw [show (a * 256 + b) / 256 = a by omega, show (a * 256 + b) % 256 = b by omega]
def findP (p : Int) : Int := if p < 0 ∨ 65535 < p then -1 else findL SP p
def bytesL (l : List Int) : List UInt8 × Int :=
  if l = [] then ([], 0) else if 0 ≤ twoB TW l then (codeB (136 * 256 + twoB TW l), 2) else if 0 ≤ findP (l.getD 0 0) then (codeB (findP (l.getD 0 0)), 1) else ([], 0)
theorem mkeepS {w W w' : World} {a0 a1 a : Addr} {v0 v1 v : Value} (hm : w.cell? a = some v) (h1 : Below w.heap.size w W) (h2 : w'.cell? a0 = some v0 ∧ w'.cell? a1 = some v1 ∧ Below W.heap.size W w') : w'.cell? a = some v := bcell_keep (bcell_keep hm h1) h2.2.2
theorem secondZ_bd {c : Int} (h0 : 0 ≤ c) (h1 : c ≤ 156) : 64 ≤ secondZ c ∧ secondZ c ≤ 254 := by unfold secondZ; split <;> omega
theorem findZ_bd (ps : List Int) (p : Int) : -1 ≤ findZ ps p ∧ findZ ps p < ps.length := by
  have := fnd_ge ps p
  have := fnd_lt ps p
  unfold findZ; split <;> omega
def BytesPost (l : List Int) (w0 : World) (e : Ending) (w' : World) : Prop := e = .returned (.tuple #[.string ⟨(bytesL l).1.toArray⟩, .int .i64 (bytesL l).2]) ∧ Below w0.heap.size w0 w'
def TwoBRel (l : List Int) (w0 : World) (i : Value) (wr : World) : Prop := ∃ k : Nat, k ≤ 4 ∧ i = .int .i64 k ∧ twoB TW l = twoB (TW.drop k) l ∧ Below w0.heap.size w0 wr
def findQ (l : List (Int × Int × List Int)) (p : Int) : Int := if p < 0 ∨ 65535 < p then -1 else findL l p
theorem find_step {k : Nat} (h : k < 11) (p : Int) : findQ (SP.drop k) p = if findZ (listN k) p < 0 then findQ (SP.drop (k + 1)) p else leadN k * 256 + secondZ (cellZ (secN k) + findZ (listN k) p) := by
  rw [drop11 h]
  unfold findQ findZ
  by_cases hp : p < 0 ∨ 65535 < p
  · simp [hp]
  · simp only [if_neg hp, findL]
def FindRel (p : Int) (w0 : World) (i : Value) (wr : World) : Prop := ∃ k : Nat, k ≤ 11 ∧ i = .int .i64 k ∧ findP p = findQ (SP.drop k) p ∧ Below w0.heap.size w0 wr

theorem Bytes_empty (A : Option Addr) (c : Nat) (w : World) :
    Calls Try.prog 11 #[.slice A 0 c] w (BytesPost [] w) := by
  go_enter Try.func11, Try.ntmps11
  go_wp2_with fail
  go_ret2
  exact ⟨rfl, Below.refl _ _⟩

theorem Bytes_some (ad : Addr) (c n : Nat) (l : List Int) (hln : n = l.length) (w : World) (hn : Nums w w.heap.size .i32 (some ad) l) (h1 : 0 < n) (hl : n ≤ 1000) (m : Int) (hm : w.cell? ⟨0, 0, none⟩ = some (.int .i64 m)) :
    Calls Try.prog 11 #[.slice (some ad) n c] w (BytesPost l w) := by
  subst hln
  generalize hP : BytesPost l w = P at *
  go_enter Try.func11, Try.ntmps11
  go_wp2_with (first | (go_at_call 17; refine (Twos_abs _).mono ?_; rintro e w2 ⟨V, rfl, hV, hb2⟩))
  go_loopw [13] (fun i wr => TwoBRel l w i wr) (fun i _ => 4 - (intOf i).toNat)
  case atStart => exact ⟨0, by omega, rfl, rfl, hb2⟩
  case round =>
    obtain ⟨k, hk, rfl, heq, hbr⟩ := hrel
    by_cases hk4 : k < 4
    · have hstep := Lib.hid (twoB_step hk4 l)
      obtain ⟨⟨f1, f2⟩, ⟨f3, f4⟩, f5, f6⟩ := tw_facts k hk4
      have hi := hV k hk4
      change ∀ w, (Instr.index 48 V (.int .i64 k)).run Try.prog w = .ok (.agg #[.int .i64 (tw1 k), .int .i32 (tw2 k), .int .i32 (tw3 k)]) w at hi
      have Heq := Lib.hid heq
      clear heq
      generalize tw1 k = S at *
      generalize tw2 k = p at *
      generalize tw3 k = q at *
      have hbA := hbr.alloc hbr.size (.cells #[.int .i64 S, .int .i32 p, .int .i32 q] 47)
      have hnA := hn.below hbA
      obtain ⟨c0, c1, c2⟩ := box3 wr 47 (.int .i64 S) (.int .i32 p) (.int .i32 q)
      obtain ⟨ad', ha', _, ca⟩ := hnA.at_ (i := 0) (by omega)
      cases ha'
      rw [Addr.add_zero'] at ca
      generalize hW : wr.alloc (.cells #[.int .i64 S, .int .i32 p, .int .i32 q] 47) = W at *
      by_cases h2 : 1 < l.length
      · obtain ⟨ad', ha', _, cb⟩ := hnA.at_ (i := 1) h2
        cases ha'
        have cb1 : W.cell? ⟨ad.block, ad.off + 1, none⟩ = some (.int .i32 (l.getD 1 0)) := by simpa [Addr.add] using cb
        clear hn hnA cb
        by_cases hx : l.getD 0 0 = p
        · by_cases hy : l.getD 1 0 = q
          · have hval := Lib.hid (show twoB TW l = S by rw [Heq.out, hstep.out, if_pos ⟨h2, hx, hy⟩])
            clear hstep Heq
            generalize l.getD 0 0 = x at *
            generalize l.getD 1 0 = y at *
            subst hx hy
            go_wp2_with fail
            clear hW
            have hd : decide (1 < (l.length : Int)) = true := decide_eq_true (by omega)
            have hd2 : 1 < (l.length : Int) := by omega
            refine wp_region_lin (fun w' => w' = W.drew) [(0, true), (1, true), (2, true), (3, true), (4, true), (5, true), (6, true), (7, true), (8, true), (9, true), (10, true), (11, true), (12, true), (13, true), (14, true), (15, true), (16, true), (17, true), (18, true), (19, true), (20, true)] (by kernel_rfl) (by kernel_rfl) (by kernel_rfl) (Nat.le_of_ble_eq_true rfl) (fun _ _ d _ _ h => by cases d <;> exact h) rfl ?_
            repeat (first
              | (refine lin_skip rfl (by rfl) ?_; try simp only [Act.put, List.setIfInBounds_toArray, List.set_cons_zero, List.set_cons_succ])
              | (refine' lin_pure rfl (by rfl) _ (fun w hSw => _) _; rotate_left; (subst hSw; go_simp; try with_reducible rfl); try simp only [Act.put, List.setIfInBounds_toArray, List.set_cons_zero, List.set_cons_succ]))
            refine lin_nil ?_
            go_wp2_with (first | (go_at_call 22; refine (Code_any 136 S ⟨by omega, by omega⟩ ⟨by omega, by omega⟩ _).mono ?_; rintro e w3 ⟨rfl, hb3⟩))
            show P (.returned (.tuple #[.string ⟨#[136, UInt8.ofNat S.toNat]⟩, .int .i64 2])) w3
            rw [← hP]
            have e : bytesL l = (codeB (136 * 256 + S), 2) := by
              unfold bytesL
              rw [if_neg (by intro e; rw [e] at h1; simp at h1), hval.out, if_pos (by omega)]
            unfold BytesPost
            rw [e, codeB_of ⟨by omega, by omega⟩]
            exact ⟨rfl, hbA.drew.trans (hb3.mono hbA.size)⟩
          · have hval := Lib.hid (show twoB TW l = twoB (TW.drop (k + 1)) l by rw [Heq.out, hstep.out, if_neg (fun h => hy h.2.2)])
            clear hstep Heq
            generalize l.getD 0 0 = x at *
            generalize l.getD 1 0 = y at *
            subst hx
            go_wp2_with fail
            clear hW
            have hd : decide (1 < (l.length : Int)) = true := decide_eq_true (by omega)
            have hd2 : 1 < (l.length : Int) := by omega
            have hz : (y == q) = false := by simpa using hy
            refine wp_region_lin (fun w' => w' = W.drew) [(0, true), (1, true), (2, true), (3, true), (4, true), (5, true), (6, true), (7, true), (8, true), (9, true), (10, true), (11, true), (12, true), (13, true), (14, true), (15, true), (16, true), (17, true), (18, true), (19, true), (20, true)] (by kernel_rfl) (by kernel_rfl) (by kernel_rfl) (Nat.le_of_ble_eq_true rfl) (fun _ _ d _ _ h => by cases d <;> exact h) rfl ?_
            repeat (first
              | (refine lin_skip rfl (by rfl) ?_; try simp only [Act.put, List.setIfInBounds_toArray, List.set_cons_zero, List.set_cons_succ])
              | (refine' lin_pure rfl (by rfl) _ (fun w hSw => _) _; rotate_left; (subst hSw; go_simp; try with_reducible rfl); try simp only [Act.put, List.setIfInBounds_toArray, List.set_cons_zero, List.set_cons_succ]))
            refine lin_nil ?_
            go_wp2_with fail
            go_roundw
            case rel => exact ⟨k + 1, by omega, by go_num, hval.out, hbA.drew⟩
            case measure => simp [intOf]; omega
        · have hval := Lib.hid (show twoB TW l = twoB (TW.drop (k + 1)) l by rw [Heq.out, hstep.out, if_neg (fun h => hx h.2.1)])
          clear hstep Heq
          generalize l.getD 0 0 = x at *
          generalize l.getD 1 0 = y at *
          go_wp2_with fail
          clear hW
          have hd : decide (1 < (l.length : Int)) = true := decide_eq_true (by omega)
          have hd2 : 1 < (l.length : Int) := by omega
          have hz : (x == p) = false := by simpa using hx
          refine wp_region_lin (fun w' => w' = W.drew) [(0, true), (1, true), (2, true), (3, true), (4, true), (5, true), (6, true), (7, true), (8, true), (9, true), (10, true), (11, true), (12, true), (13, true), (14, true), (15, true), (16, true), (17, true), (18, true), (19, true), (20, true)] (by kernel_rfl) (by kernel_rfl) (by kernel_rfl) (Nat.le_of_ble_eq_true rfl) (fun _ _ d _ _ h => by cases d <;> exact h) rfl ?_
          repeat (first
            | (refine lin_skip rfl (by rfl) ?_; try simp only [Act.put, List.setIfInBounds_toArray, List.set_cons_zero, List.set_cons_succ])
            | (refine' lin_pure rfl (by rfl) _ (fun w hSw => _) _; rotate_left; (subst hSw; go_simp; try with_reducible rfl); try simp only [Act.put, List.setIfInBounds_toArray, List.set_cons_zero, List.set_cons_succ]))
          refine lin_nil ?_
          go_wp2_with fail
          go_roundw
          case rel => exact ⟨k + 1, by omega, by go_num, hval.out, hbA.drew⟩
          case measure => simp [intOf]; omega
      · have hval := Lib.hid (show twoB TW l = twoB (TW.drop (k + 1)) l by rw [Heq.out, hstep.out, if_neg (fun h => h2 h.1)])
        clear hstep Heq
        go_wp2_with fail
        clear hW
        have hd : decide (1 < (l.length : Int)) = false := decide_eq_false (by omega)
        refine wp_region_lin (fun w' => w' = W.drew) [(0, true), (1, true), (2, true), (3, true), (4, true), (5, true), (6, true), (7, true), (8, true), (9, true), (10, true), (11, true), (12, true), (13, true), (14, true), (15, true), (16, true), (17, true), (18, true), (19, true), (20, true)] (by kernel_rfl) (by kernel_rfl) (by kernel_rfl) (Nat.le_of_ble_eq_true rfl) (fun _ _ d _ _ h => by cases d <;> exact h) rfl ?_
        repeat (first
          | (refine lin_skip rfl (by rfl) ?_; try simp only [Act.put, List.setIfInBounds_toArray, List.set_cons_zero, List.set_cons_succ])
          | (refine' lin_pure rfl (by rfl) _ (fun w hSw => _) _; rotate_left; (subst hSw; go_simp; try with_reducible rfl); try simp only [Act.put, List.setIfInBounds_toArray, List.set_cons_zero, List.set_cons_succ]))
        refine lin_nil ?_
        go_wp2_with fail
        go_roundw
        case rel => exact ⟨k + 1, by omega, by go_num, hval.out, hbA.drew⟩
        case measure => simp [intOf]; omega
    · have hk2 : k = 4 := by omega
      subst hk2
      have hno := Lib.hid (show twoB TW l = -1 from heq)
      clear hk4 heq hV hk
      go_wp2_with (first | (go_at_call 23; refine (Spans_abs _).mono ?_; rintro e w3 ⟨V2, rfl, hV, hb3⟩))
      have hb0 := hbr.trans (hb3.mono hbr.size)
      clear hb3 hbr hb2
      go_loopw [42] (fun i wr => FindRel (l.getD 0 0) w i wr) (fun i _ => 11 - (intOf i).toNat)
      case atStart => exact ⟨0, by omega, rfl, rfl, hb0⟩
      case round =>
        obtain ⟨k, hk, rfl, heq, hbr⟩ := hrel
        by_cases hk11 : k < 11
        · have hstep := Lib.hid (find_step hk11 (l.getD 0 0))
          obtain ⟨hx, hsz⟩ := hex11 hk11
          obtain ⟨l1, l2, l3, l4, l5, l6, l7⟩ := len11 k hk11
          have hi := hV k hk11
          have Heq := Lib.hid heq
          clear heq
          have hcell := fun w => Cell_b (secN k) ⟨by omega, by omega⟩ w
          generalize leadN k = L at *
          generalize secN k = S at *
          generalize listN k = ps at *
          generalize sB k = s at *
          generalize cellZ S = d at *
          have hfb := findZ_bd ps (l.getD 0 0)
          have hbA := hbr.alloc hbr.size (.cells #[.int .i64 L, .int .i64 S, .string s] 56)
          have hnA := hn.below hbA
          obtain ⟨c0, c1, c2⟩ := box3 wr 56 (.int .i64 L) (.int .i64 S) (.string s)
          obtain ⟨ad', ha', _, ca⟩ := hnA.at_ (i := 0) (by omega)
          cases ha'
          rw [Addr.add_zero'] at ca
          generalize hW : wr.alloc (.cells #[.int .i64 L, .int .i64 S, .string s] 56) = W at *
          clear hn hnA
          have hfd := fun w hm => Find_any s ps hx (l.getD 0 0) hsz w m hm
          have hx0 := Lib.hid (show l.getD 0 0 = l.getD 0 0 from rfl)
          generalize hxl : l.getD 0 0 = x at *
          have Hxl := Lib.hid hxl
          clear hx hxl hx0
          generalize hf : findZ ps x = f at *
          clear hf
          go_wp2_with fail
          clear hW
          go_region_held3 (fun w' => w'.cell? ⟨wr.heap.size, 2, none⟩ = some (.string s) ∧ w'.cell? ad = some (.int .i32 x) ∧ Below W.heap.size W w') (first | exact ⟨c2, ca, (Below.refl _ _).drew⟩ | exact bkeep2 (by assumption) (by assumption)) (first | (go_at_call 24; refine (hfd _ (mkeepS hm hbA (by assumption))).mono ?_; rintro e w5 ⟨rfl, hb5⟩))
          rename_i hS
          have hB := hbA.trans (hS.2.2.mono hbA.size)
          have d0 := bcell_keep c0 hS.2.2
          have d1 := bcell_keep c1 hS.2.2
          by_cases hf0 : f < 0
          · have hval := Lib.hid (show findP x = findQ (SP.drop (k + 1)) x by rw [Heq.out, hstep.out, if_pos hf0])
            clear hstep Heq
            go_wp2_with fail
            go_roundw
            case rel => exact ⟨k + 1, by omega, by go_num, hval.out, hB⟩
            case measure => simp [intOf]; omega
          · have hval := Lib.hid (show findP x = L * 256 + secondZ (d + f) by rw [Heq.out, hstep.out, if_neg hf0])
            clear hstep Heq
            have hsd := secondZ_bd (c := d + f) (by omega) (by omega)
            obtain ⟨hs0, hs1⟩ := hsd
            have hw : IntKind.i64.wrap (d + f) = d + f := IntWalk.i64_in _ (by omega)
            have hsec := fun w => Second_b (d + f) ⟨by omega, by omega⟩ w
            have hcode := fun w => Code_any L (secondZ (d + f)) ⟨l2, l3⟩ ⟨by omega, by omega⟩ w
            have he : bytesL l = (codeB (L * 256 + secondZ (d + f)), 1) := by
              unfold bytesL
              rw [if_neg (by intro e; rw [e] at h1; simp at h1), hno.out, if_neg (by decide), Hxl.out, hval.out, if_pos (by omega)]
            have He := Lib.hid (show bytesL l = ([L.toNat.toUInt8, (secondZ (d + f)).toNat.toUInt8], 1) by rw [he, codeB_of ⟨by omega, by omega⟩])
            clear hval he
            generalize secondZ (d + f) = sz at *
            rename_i w5 _ _
            go_wp2_with fail
            go_region_held3 (fun w' => w'.cell? ⟨wr.heap.size, 0, none⟩ = some (.int .i64 L) ∧ w'.cell? ⟨wr.heap.size, 1, none⟩ = some (.int .i64 S) ∧ Below w5.heap.size w5 w') (first | exact ⟨d0, d1, (Below.refl _ _).drew⟩ | exact bkeep2 (by assumption) (by assumption)) (first | (go_at_call 26; refine (hcell _).mono ?_; rintro e w6 ⟨rfl, hb6⟩) | (go_at_call 25; refine (hsec _).mono ?_; rintro e w6 ⟨rfl, hb6⟩) | (go_at_call 22; refine (hcode _).mono ?_; rintro e w6 ⟨rfl, hb6⟩))
            rename_i hS2
            go_wp2_with fail
            show P (.returned (.tuple #[.string ⟨#[L.toNat.toUInt8, sz.toNat.toUInt8]⟩, .int .i64 1])) _
            rw [← hP]
            unfold BytesPost
            rw [He.out]
            exact ⟨rfl, hB.trans (hS2.2.2.mono hB.size)⟩
        · have hk2 : k = 11 := by omega
          subst hk2
          have hval := Lib.hid (show findP (l.getD 0 0) = -1 by rw [heq]; unfold findQ; split <;> rfl)
          clear hk11 heq
          go_wp2_with fail
          show P (.returned (.tuple #[.string ⟨#[]⟩, .int .i64 0])) _
          rw [← hP]
          have e : bytesL l = ([], 0) := by
            unfold bytesL
            rw [if_neg (by intro e; rw [e] at h1; simp at h1), hno.out, if_neg (by decide), hval.out, if_neg (by decide)]
          unfold BytesPost
          rw [e]
          exact ⟨rfl, hbr⟩
end Go.Proofs.Ytnalckiibcbgoaa
