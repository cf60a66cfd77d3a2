/- Contracts: the document's Byte, Decode, Encode of chapter 5; conditions: the charset is one of the four, small lengths. -/
import Derived.Test.YtpnjandlpbjddaaDoorKF
set_option maxRecDepth 100000
set_option maxHeartbeats 1000000
namespace Go.Proofs.YtpnjandlpbjddaaDoor
open Go Go.RowKit

theorem cd_none (f : Nat → Int) (p : Int) : ∀ N, N ≤ 256 → (∀ j, j < N → f j ≠ p) → cdOf ((List.range N).map fun m => (m, f m)) p = none
  | 0, _, _ => rfl
  | N + 1, hN, h => by
    rw [List.range_succ, List.map_append, List.map_cons, List.map_nil, cdOf_snoc, cd_none f p N (by omega) (fun j hj => h j (by omega)), if_neg (fun e => h N (by omega) e.1)]; rfl
theorem cd_hit (f : Nat → Int) (p : Int) (k : Nat) (hk : k < 256) (h : ∀ j, j < k → f j ≠ p) (he : f k = p) : ∀ N, k < N → N ≤ 256 → cdOf ((List.range N).map fun m => (m, f m)) p = some k
  | 0, h1, _ => by omega
  | N + 1, h1, hN => by
    rw [List.range_succ, List.map_append, List.map_cons, List.map_nil, cdOf_snoc]
    by_cases e : k = N
    · subst e
      rw [cd_none f p k (by omega) h, if_pos ⟨he, hk⟩]; rfl
    · rw [cd_hit f p k hk h he N (by omega) (by omega)]; rfl
def byZ (o : Option Nat) : Int := match o with
  | some n => (n : Int)
  | none => -1
theorem RSign_n (c n : Nat) (hn : n < 256) (w : World) :
    Calls Tryd.prog 9 #[.int .i64 c, .int .u8 (n : Int)] w fun e w' => e = .returned (.int .i32 (sgnL c n)) ∧ Below w.heap.size w w' := by
  have h := RSign_any c n.toUInt8 w
  rw [show n.toUInt8.toNat = n by simp; omega] at h
  exact h
def ByRel (c : Nat) (p : Int) (w0 : World) (i : Value) (wr : World) : Prop := ∃ k : Nat, k ≤ 256 ∧ i = .int .i64 k ∧ (∀ j, j < k → sgnL c j ≠ p) ∧ Below w0.heap.size w0 wr
theorem RByte_any (c : Nat) (p : Int) (w : World) :
    Calls Tryd.prog 31 #[.int .i64 c, .int .i32 p] w fun e w' => e = .returned (.int .i64 (byZ (cdOf (setL c) p))) ∧ Below w.heap.size w w' := by
  have HP : Hid (∀ o w', cdOf (setL c) p = o → Below w.heap.size w w' → (fun e w' => e = Ending.returned (.int .i64 (byZ (cdOf (setL c) p))) ∧ Below w.heap.size w w') (.returned (.int .i64 (byZ o))) w') := Lib.hid fun o w' h hb => by rw [← h]; exact ⟨rfl, hb⟩
  generalize (fun (e : Ending) (w' : World) => e = Ending.returned (.int .i64 (byZ (cdOf (setL c) p))) ∧ Below w.heap.size w w') = P at *
  go_enter Tryd.func31, Tryd.ntmps31
  go_wp2_with fail
  go_loopw [5] (fun i wr => ByRel c p w i wr) (fun i _ => 256 - (intOf i).toNat)
  case atStart => exact ⟨0, by omega, rfl, fun j hj => by omega, Below.refl _ _⟩
  case round =>
    obtain ⟨k, hk, rfl, hno, hb⟩ := hrel
    have Hno := Lib.hid hno
    clear hno
    by_cases hlt : k < 256
    · have hlt' : (k : Int) < 256 := by omega
      have hw8 : IntKind.u8.wrap (k : Int) = k := by simp [IntKind.wrap, IntKind.bits, IntKind.signed]; omega
      have hsg := fun W => RSign_n c k hlt W
      by_cases he : sgnL c k = p
      · have e0 : (sgnL c k == p) = true := by rw [he]; simp
        have Hr := Lib.hid (cd_hit (sgnL c) p k hlt Hno.out he 256 hlt (Nat.le_refl _))
        clear he
        go_wp2_with (go_at_call 9; refine (hsg _).mono ?_; rintro e w1 ⟨rfl, hb1⟩)
        show P (.returned (.int .i64 (byZ (some k)))) _
        exact HP.out (some k) _ Hr.out (hb.trans (hb1.mono hb.size))
      · have e0 : (sgnL c k == p) = false := by rw [beq_eq_false_iff_ne]; exact he
        have He := Lib.hid he
        clear he
        go_wp2_with (go_at_call 9; refine (hsg _).mono ?_; rintro e w1 ⟨rfl, hb1⟩)
        go_roundw
        case rel => exact ⟨k + 1, by omega, by simp, fun j hj => by by_cases e : j = k; exact e ▸ He.out; exact Hno.out j (by omega), hb.trans (hb1.mono hb.size)⟩
        case measure => simp [intOf]; omega
    · obtain rfl : k = 256 := by omega
      have Hr := Lib.hid (cd_none (sgnL c) p 256 (Nat.le_refl _) Hno.out)
      go_wp2_with fail
      show P (.returned (.int .i64 (byZ none))) _
      exact HP.out none _ Hr.out hb
def RdRel (c : Nat) (b : ByteArray) (w0 : World) (v i : Value) (wr : World) : Prop := ∃ k : Nat, k ≤ b.size ∧ i = .int .i64 k ∧ v = .string (tB ((b.data.toList.take k).map fun x => sgnL c x.toNat)) ∧ Below w0.heap.size w0 wr
theorem RDecode_any (c : Nat) (hc : c ≤ 3) (b : ByteArray) (hb : b.size ≤ 100000) (w : World) :
    Calls Tryd.prog 13 #[.int .i64 c, .string b] w fun e w' => e = .returned (.string (tB (b.data.toList.map fun x => sgnL c x.toNat))) ∧ Below w.heap.size w w' := by
  have hbl : b.data.toList.length = b.size := by simp
  go_enter Tryd.func13, Tryd.ntmps13
  go_wp2_with fail
  go_loopw [5, 6] (fun v i wr => RdRel c b w v i wr) (fun _ i _ => b.size - (intOf i).toNat)
  case atStart => exact ⟨0, by omega, rfl, rfl, Below.refl _ _⟩
  case round =>
    obtain ⟨k, hk, rfl, rfl, hbr⟩ := hrel
    by_cases hlt : k < b.size
    · have hx : b.data.toList[k]? = some b[k] := by rw [List.getElem?_eq_getElem (by omega)]; rfl
      have hnext : Hid (tB ((b.data.toList.take (k + 1)).map fun x => sgnL c x.toNat) = tB ((b.data.toList.take k).map fun x => sgnL c x.toNat) ++ ⟨(Lib.encodeRune (sgnL c b[k].toNat)).toArray⟩) := by
        rw [List.take_add_one, hx, List.map_append]
        show tB (_ ++ [sgnL c b[k].toNat]) = _
        unfold tB
        rw [textL_snoc]; exact (mk_append _ _).symm
      have hsg := fun W => RSign_any c b[k] W
      have hsc := sgn_sc hc b[k].toNat_lt
      have h4 := (len_textL ((b.data.toList.take k).map fun x => sgnL c x.toNat)).2
      rw [List.length_map, List.length_take] at h4
      have hsz : (tB ((b.data.toList.take k).map fun x => sgnL c x.toNat)).size ≤ 400000 := by
        show (textL _).length ≤ _
        omega
      have he := enc_len (sgnL c b[k].toNat)
      clear h4 hx
      generalize sgnL c b[k].toNat = z at *
      generalize tB ((b.data.toList.take k).map fun x => sgnL c x.toNat) = tb at *
      go_wp2_with (first
        | (go_at_call 9; refine (hsg _).mono ?_; rintro e w1 ⟨rfl, hb1⟩)
        | (go_at_call 29; refine (RBytes_any hsc _).mono ?_; rintro e w2 ⟨rfl, hb2⟩))
      go_roundw
      case rel => exact ⟨k + 1, by omega, by simp, by rw [hnext.out], (hbr.trans (hb1.mono hbr.size)).trans (hb2.mono (Nat.le_trans hbr.size hb1.size))⟩
      case measure => simp [intOf]; omega
    · obtain rfl : k = b.size := by omega
      rw [List.take_of_length_le (by omega)]
      go_wp2_with fail
      go_ret
      exact ⟨rfl, hbr⟩
theorem below_step {w w1 : World} (h : Below w.heap.size w w1) {o : Obj} : Below w.heap.size w (w1.alloc o) := h.alloc h.size o
def ReRes (r : List UInt8 ⊕ Nat) : Value := match r with
  | .inl bs => .tuple #[.string ⟨bs.toArray⟩, .int .i64 (-1)]
  | .inr j => .tuple #[.string ⟨#[]⟩, .int .i64 (j : Int)]
def RePost (r : List UInt8 ⊕ Nat) (w0 : World) (e : Ending) (w' : World) : Prop := e = .returned (ReRes r) ∧ Below w0.heap.size w0 w'
def ReRel (c : Nat) (ps : List Int) (w0 : World) (v6 v7 i : Value) (wr : World) : Prop := ∃ (k : Nat) (cs : List Nat), k ≤ ps.length ∧ i = .int .i64 k ∧ (ps.take k).map (cdOf (setL c)) = cs.map some ∧ v6 = .string ⟨(cs.map Nat.toUInt8).toArray⟩ ∧ v7 = .int .i64 ((textL (ps.take k)).length : Nat) ∧ Below w0.heap.size w0 wr
theorem REncode_any (c : Nat) (A : Option Addr) (cap : Nat) (ps : List Int) (hps : ∀ p ∈ ps, scalarB p = true) (hl : ps.length ≤ 100000) (w : World) (hn : Nums w w.heap.size .i32 A ps) :
    Calls Tryd.prog 17 #[.int .i64 c, .slice A ps.length cap] w (RePost (ecF (cdOf (setL c)) ps 0) w) := by
  have HP : Hid (∀ r w', ecF (cdOf (setL c)) ps 0 = r → Below w.heap.size w w' → RePost (ecF (cdOf (setL c)) ps 0) w (.returned (ReRes r)) w') := Lib.hid fun r w' h1 h2 => by rw [h1]; exact ⟨rfl, h2⟩
  generalize RePost (ecF (cdOf (setL c)) ps 0) w = P at *
  have HN := Lib.hid hn
  have Hps := Lib.hid hps
  clear hn hps
  go_enter Tryd.func17, Tryd.ntmps17
  go_wp2_with fail
  go_loopw [6, 7, 8] (fun v6 v7 i wr => ReRel c ps w v6 v7 i wr) (fun _ _ i _ => ps.length - (intOf i).toNat)
  case atStart => exact ⟨0, [], by omega, rfl, rfl, rfl, rfl, Below.refl _ _⟩
  case round =>
    obtain ⟨k, cs, hk, rfl, hcs, rfl, rfl, hb⟩ := hrel
    have hcl : cs.length = k := by have := congrArg List.length hcs; simp at this; omega
    have h4 := (len_textL (ps.take k)).2
    rw [List.length_take] at h4
    by_cases hlt : k < ps.length
    · have hnk := HN.out.below hb
      obtain ⟨ad, p, rfl, hadb, hc, hp, hm⟩ := hnk.get hlt
      have hpk : ps[k]? = some p := by rw [List.getElem?_eq_getElem hlt]; have := hp.out; rw [List.getD_eq_getElem?_getD, List.getElem?_eq_getElem hlt] at this; simpa using this
      have hby := fun W => RByte_any c p W
      cases hcd : cdOf (setL c) p with
      | none =>
        rw [hcd, show byZ none = -1 from rfl] at hby
        have Hr := Lib.hid (ec_bad (cdOf (setL c)) k ps cs 0 p hcs hpk hcd)
        rw [Nat.zero_add] at Hr
        have hneg : ((-1 : Int) < 0) := by omega
        clear hcs hpk hcd hm hp hnk hcl
        generalize (textL (ps.take k)).length = at_ at *
        generalize (⟨(cs.map Nat.toUInt8).toArray⟩ : ByteArray) = s6 at *
        go_wp2_with (go_at_call 31; refine (hby _).mono ?_; rintro e w1 ⟨rfl, hb1⟩)
        show P (.returned (.tuple #[.string ⟨#[]⟩, .int .i64 (at_ : Nat)])) _
        exact HP.out (.inr at_) _ Hr.out (hb.trans (hb1.mono hb.size))
      | some m =>
        rw [hcd, show byZ (some m) = (m : Int) from rfl] at hby
        obtain ⟨hm256, _⟩ := cdOf_some hcd
        have hm256' : (m : Int) < 256 := by omega
        have hw8 : IntKind.u8.wrap (m : Int) = m := by simp [IntKind.wrap, IntKind.bits, IntKind.signed]; omega
        have hmod : (m : Int) % 256 = m := by omega
        have hzw := hb.size
        have hsc := Hps.out p hm
        have he := enc_len p
        have k1 := fun (W : World) (cp : Nat) => conv1 (P := Tryd.prog) 64 9 5 Tryd.underlying64 Tryd.underlying5 Tryd.underlying9 W (m : Int) cp
        have hs1 : strOfNums [(m : Int)] = ⟨([m.toUInt8] : List UInt8).toArray⟩ := nums_codes [m]
        simp only [hs1] at k1
        have hcs2 := Lib.hid (show (ps.take (k + 1)).map (cdOf (setL c)) = (cs ++ [m]).map some by rw [List.take_add_one, hpk, List.map_append, hcs, List.map_append]; show _ ++ [cdOf (setL c) p] = _; rw [hcd]; rfl)
        have htx := Lib.hid (show (textL (ps.take (k + 1))).length = (textL (ps.take k)).length + (Lib.encodeRune p).length by rw [List.take_add_one, hpk]; show (textL (_ ++ [p])).length = _; rw [textL_snoc, List.length_append])
        have hst := Lib.hid (show (⟨((cs ++ [m]).map Nat.toUInt8).toArray⟩ : ByteArray) = ⟨(cs.map Nat.toUInt8).toArray⟩ ++ ⟨([m.toUInt8] : List UInt8).toArray⟩ by rw [List.map_append]; exact (mk_append _ _).symm)
        have hsz : (⟨(cs.map Nat.toUInt8).toArray⟩ : ByteArray).size ≤ 100000 := by show ((cs.map Nat.toUInt8).toArray).size ≤ _; simp; omega
        clear hcs hpk hcd hm hp hcl hs1
        generalize (textL (ps.take k)).length = at_ at *
        generalize (⟨(cs.map Nat.toUInt8).toArray⟩ : ByteArray) = s6 at *
        go_wp2_with (first
          | (go_at_call 31; refine (hby _).mono ?_; rintro e w1 ⟨rfl, hb1⟩; have hc1 := (hb1.cell (p := ad.add k) (by rw [block_of_add]; omega)).trans hc; have hzw1 := hb1.size; have hc2 : (w1.alloc (.cells #[.int .u8 (m : Int)] 5)).cell? (ad.add k) = some (.int .i32 p) := (World.cell?_alloc_lt _ _ _ (by rw [block_of_add]; omega)).trans hc1)
          | (go_at_call 29; refine (RBytes_any hsc _).mono ?_; rintro e w2 ⟨rfl, hb2⟩))
        go_roundw
        case rel => exact ⟨k + 1, cs ++ [m], by omega, by simp, hcs2.out, by rw [hst.out], by rw [htx.out]; simp, (hb.trans ((below_step hb1).mono hb.size)).trans (hb2.mono (by simp; omega))⟩
        case measure => simp [intOf]; omega
    · obtain rfl : k = ps.length := by omega
      rw [List.take_length] at hcs
      have Hr := Lib.hid (ec_all (cdOf (setL c)) ps cs 0 hcs)
      have Hf : Hid (∀ w', Below w.heap.size w w' → P (.returned (.tuple #[.string ⟨(cs.map Nat.toUInt8).toArray⟩, .int .i64 (-1)])) w') := Lib.hid fun w' hb => HP.out (.inl (cs.map Nat.toUInt8)) w' Hr.out hb
      clear hcs Hr HP
      generalize (⟨(cs.map Nat.toUInt8).toArray⟩ : ByteArray) = s6 at *
      go_wp2_with fail
      exact Hf.out _ hb
end Go.Proofs.YtpnjandlpbjddaaDoor
