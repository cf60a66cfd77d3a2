/- Contracts: point.Valid by cases; the law's example. -/
import Derived.Test.YtpnjandlpbjddabDoorP5
import Derived.Lib.ValidU
namespace Go.Proofs.YtpnjandlpbjddabDoor
open Go Go.RowKit
set_option maxRecDepth 100000

theorem decodeL_eq (l : List UInt8) : Lib.decodeL l = decL l := by
  unfold Lib.decodeL
  rw [decode_drop]
  rfl
theorem validGo_good : ∀ (ps : List Int) (n : Nat), (∀ p ∈ ps, scalarB p = true) → Lib.validGoD n (textL ps) = true
  | _, 0, _ => rfl
  | [], n + 1, _ => by simp [Lib.validGoD, textL_nil]
  | p :: ps, n + 1, h => by
    have hs := h p (List.mem_cons_self ..)
    have hd : decL (textL (p :: ps)) = (p.toNat, (Lib.encodeRune p).length) := by rw [textL_cons]; exact decL_enc hs _
    have he := not_err_enc hs (textL ps)
    rw [← textL_cons] at he
    unfold Lib.validGoD
    rw [decodeL_eq, hd] at *
    split
    · rfl
    · rw [if_neg]
      · have : (textL (p :: ps)).drop (Lib.encodeRune p).length = textL ps := by rw [textL_cons, List.drop_left]
        simp only
        rw [this]
        exact validGo_good ps n fun q hq => h q (List.mem_cons_of_mem _ hq)
      · rintro ⟨h1, h2⟩
        exact he ⟨h1, by simp only at h2 ⊢; omega⟩
theorem decN_one (n b0 b1 b2 b3 : Nat) : 1 ≤ (Lib.decodeN n b0 b1 b2 b3).2 := by
  unfold Lib.decodeN
  repeat' split
  all_goals simp
theorem err_one {l : List UInt8} (h : errD (decL l)) : (decL l).1 = 65533 ∧ (decL l).2 = 1 := by
  have := decN_one l.length (l.getD 0 0).toNat (l.getD 1 0).toNat (l.getD 2 0).toNat (l.getD 3 0).toNat
  have h2 := h.2
  unfold decL at h2 ⊢
  exact ⟨h.1, by omega⟩
theorem validGo_bad : ∀ (ps : List Int) (r : List UInt8) (n : Nat), ps.length < n → (∀ p ∈ ps, scalarB p = true) → r ≠ [] → errD (decL r) → Lib.validGoD n (textL ps ++ r) = false
  | _, _, 0, hn, _, _, _ => by omega
  | [], r, n + 1, _, _, hr, he => by
    unfold Lib.validGoD
    rw [textL_nil, List.nil_append, if_neg hr, decodeL_eq, if_pos (err_one he)]
  | p :: ps, r, n + 1, hn, h, hr, he => by
    have hs := h p (List.mem_cons_self ..)
    have hd : decL (textL (p :: ps) ++ r) = (p.toNat, (Lib.encodeRune p).length) := by rw [textL_cons, List.append_assoc]; exact decL_enc hs _
    have he1 := not_err_enc hs (textL ps ++ r)
    rw [← List.append_assoc, ← textL_cons] at he1
    unfold Lib.validGoD
    rw [decodeL_eq, hd] at *
    rw [if_neg (by intro h0; exact hr (List.append_eq_nil_iff.1 h0).2), if_neg]
    · have : (textL (p :: ps) ++ r).drop (Lib.encodeRune p).length = textL ps ++ r := by rw [textL_cons, List.append_assoc, List.drop_left]
      simp only
      rw [this]
      exact validGo_bad ps r n (by simp at hn; omega) (fun q hq => h q (List.mem_cons_of_mem _ hq)) hr he
    · rintro ⟨h1, h2⟩
      exact he1 ⟨h1, by simp only at h2 ⊢; omega⟩
theorem Good.valid {s : ByteArray} {ps : List Int} (h : Good s ps) : Lib.validD s.data.toList = true := by
  unfold Lib.validD
  rw [h.1]
  exact validGo_good ps _ h.2
theorem BadAt.valid {s : ByteArray} {n : Nat} (h : BadAt s n) : Lib.validD s.data.toList = false := by
  obtain ⟨ps, r, h1, h2, _, h4, h5⟩ := h
  unfold Lib.validD
  rw [h1]
  refine validGo_bad ps r _ ?_ h2 h4 h5
  have := (len_textL ps).1
  have : 0 < r.length := List.length_pos_iff.2 h4
  rw [List.length_append]
  omega
theorem nums_one (w : World) (e : TypeId) (z : Int) (k : IntKind) : Nums (w.alloc (.cells #[.int k z] e)) (w.heap.size + 1) k (some ⟨w.heap.size, 0, none⟩) [z] := nums_new w e [z] k
theorem Text_one (p : Int) (hp : scalarB p = true) (c : Nat) (w : World) :
    Calls Tryd.prog 58 #[.slice (some ⟨w.heap.size, 0, none⟩) 1 c] (w.alloc (.cells #[.int .i32 p] 21)) fun e w' => e = .returned (.tuple #[.string ⟨(Lib.encodeRune p).toArray⟩, .bool true]) ∧ Below (w.alloc (.cells #[.int .i32 p] 21)).heap.size (w.alloc (.cells #[.int .i32 p] 21)) w' := by
  have h := Text_good (some ⟨w.heap.size, 0, none⟩) c [p] _ (nums_one w 21 p .i32) (by simp) (by simpa using hp) (by simp)
  have e : textL [p] = Lib.encodeRune p := by simp [textL]
  rw [e] at h
  exact h
theorem Text_no (p : Int) (hp : scalarB p = false) (c : Nat) (w : World) :
    Calls Tryd.prog 58 #[.slice (some ⟨w.heap.size, 0, none⟩) 1 c] (w.alloc (.cells #[.int .i32 p] 21)) fun e w' => e = .returned (.tuple #[.string ⟨#[]⟩, .bool false]) ∧ (w.alloc (.cells #[.int .i32 p] 21)) = w' :=
  Text_bad (some ⟨w.heap.size, 0, none⟩) c [p] _ (nums_one w 21 p .i32) (by simp [hp]) (by simp)
theorem awake_bad : BadAt ⟨#[97, 195, 97]⟩ 1 :=
  ⟨[97], [195, 97], rfl, by decide, rfl, by decide, by decide⟩
theorem Awake_t (w : World) (hT : Tabs w) :
    Calls Tryd.prog 37 #[] w fun e w' => e = .returned (.bool true) ∧ Below w.heap.size w w' := by
  go_enter Tryd.func37, Tryd.ntmps37
  go_wp2_with (first | (go_at_call 58; refine (Text_one 233 (by decide) _ _).mono ?_; rintro e w1 ⟨rfl, hb1⟩; have hB1 := below_a1 hb1; have hT1 := Tabs_below hT hB1 (Nat.le_refl _); have hz1 := hB1.size) | (go_at_call 59; refine (Points_bad _ 1 awake_bad (by decide) _ hT1).mono ?_; rintro e w2 ⟨rfl, hb2⟩; have hB2 := hB1.trans (hb2.mono hz1)))
  go_ret
  exact ⟨rfl, hB2.alloc hB2.size _⟩
end Go.Proofs.YtpnjandlpbjddabDoor
