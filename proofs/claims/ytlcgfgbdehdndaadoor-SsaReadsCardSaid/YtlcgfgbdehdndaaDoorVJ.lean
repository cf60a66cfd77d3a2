/- Contract of the document's Cut (chapter 25); condition: at most 1,000,000 bytes. -/
import Derived.Test.YtlcgfgbdehdndaaDoorVH
set_option maxRecDepth 100000
set_option maxHeartbeats 4000000
namespace Go.Proofs.YtlcgfgbdehdndaaDoor
open Go Go.RowKit

section
variable {ops : Array Oper} {rest : List Oper} {o : Oper} {a : Act} {Q : Exit → Act → World → Prop}
theorem str_one (w : World) (x : Value) (t : TypeId) : ∀ j u, [x][j]? = some u → (w.alloc (.cells #[x] t)).cell? ((⟨w.heap.size, 0, none⟩ : Addr).add j) = some u := by
  intro j u hu
  have hadd : (⟨w.heap.size, 0, none⟩ : Addr).add j = ⟨w.heap.size, j, none⟩ := by unfold Addr.add; split <;> simp_all
  rw [hadd, cell_of_row _ w.heap.size j _ t (0, 0) (heap_alloc_new w _)]
  simpa using hu
/-- A text behind a row of texts of the call's own. -/
theorem app_s (hgd : o.guard = none) (s x : Operand) (ho : o.op = .call { callee := .builtin .append, args := #[s, x], argTypes := #[37, 37] }) (base : Nat) (v : Value) (L : List (List UInt8)) (hs : a.eval s = v) (W : World) (y : List UInt8) (q : Value) (hq : q = vS y)
    (hown : W.ownsRow base 9 1 v L.length (L.map vS)) (hbase : base ≤ W.heap.size) (hlen : L.length ≤ 16777216) (hx : a.eval x = .slice (some ⟨W.heap.size, 0, none⟩) 1 1)
    (h : ∀ v' w', Hid (w'.ownsRow base 9 1 v' (L ++ [y]).length ((L ++ [y]).map vS)) → Below base W w' → wpList Tryd.prog ops Q rest (a.put o.dst v') w') :
    wpList Tryd.prog ops Q (o :: rest) a (W.alloc (.cells #[q] 9)) := by
  obtain ⟨i0, hi, iz0, iz1, iz2⟩ := info_parts str_info
  subst hq
  refine wpList_append_own _ hgd s x 37 ho base 9 i0 _ 1 16 Tryd.underlying37 hi iz0 iz1 iz2 rfl (by decide) v L.length _ hs (hown.alloc _) ⟨W.heap.size, 0, none⟩ 1 1 [vS y] hx rfl (str_one W _ _) ?_ (by unfold maxLen; omega) (by omega) (by simp; omega) ?_
  · intro u hu; simp only [List.mem_singleton] at hu; subst hu; rfl
  · intro v6 w6 hown6 hg6 _
    refine h v6 w6 (Lib.hid ?_) (below_grownOwn ((Below.refl _ W).alloc hbase _) (hown.alloc _) hg6 (by simp; omega) (Nat.le_refl _))
    rw [List.length_append, List.map_append]
    exact hown6
end
def CtPost (L : List (List UInt8)) (w0 : World) (e : Ending) (w' : World) : Prop := ∃ A c, e = .returned (.slice A L.length c) ∧ L.length ≤ c ∧ Reads w' w'.heap.size 1 A L.length (L.map vS) ∧ Below w0.heap.size w0 w'
def CtRel (s : ByteArray) (m : Nat) (w0 : World) (v at_ i : Value) (wr : World) : Prop := ∃ (k a : Nat) (out : List (List UInt8)), a ≤ k ∧ k ≤ s.size ∧ i = .int .i64 k ∧ at_ = .int .i64 a ∧ out.length ≤ m - 1 ∧ out.length ≤ k ∧
  cutK (m - 1) s.data.toList = out ++ cutK (m - 1 - out.length) (s.data.toList.drop a) ∧ (∀ j x, a ≤ j → j < k → s.data.toList[j]? = some x → x ≠ 44) ∧ wr.ownsRow w0.heap.size 9 1 v out.length (out.map vS) ∧ Below w0.heap.size w0 wr
theorem no_com {l : List UInt8} {a k : Nat} (h : ∀ j x, a ≤ j → j < k → l[j]? = some x → x ≠ 44) : 44 ∉ (l.take k).drop a := by
  intro hm
  obtain ⟨j, hj⟩ := List.getElem?_of_mem hm
  rw [List.getElem?_drop, List.getElem?_take] at hj
  split at hj
  · exact h (a + j) 44 (by omega) (by omega) hj rfl
  · cases hj
theorem RCut_any (s : ByteArray) (m : Nat) (hs : s.size ≤ 1000000) (hmm : m ≤ 4611686018427387904) (w : World) :
    Calls Tryd.prog 18 #[.string s, .int .i64 m] w (CtPost (cutK (m - 1) s.data.toList) w) := by
  have hl0 := len_data s
  have e1 : IntKind.i64.wrap ((m : Int) - 1) = (m : Int) - 1 := IntWalk.i64_in _ (by omega)
  have HF : Hid (∀ (v : Value) W, W.ownsRow w.heap.size 9 1 v (cutK (m - 1) s.data.toList).length ((cutK (m - 1) s.data.toList).map vS) → Below w.heap.size w W → CtPost (cutK (m - 1) s.data.toList) w (.returned v) W) := Lib.hid fun v W hown hb => by
    obtain ⟨A, c, rfl, hc, hr⟩ := Reads.of_own hown
    exact ⟨A, c, rfl, hc, hr, hb⟩
  generalize hP : CtPost (cutK (m - 1) s.data.toList) w = P at *
  clear hP
  go_enter Tryd.func18, Tryd.ntmps18
  go_wp2_with fail
  go_loopw [5, 6, 7] (fun v a i wr => CtRel s m w v a i wr) (fun _ _ i _ => s.size - (intOf i).toNat)
  case atStart => exact ⟨0, 0, [], Nat.le_refl _, by omega, rfl, rfl, by simp, by simp, by simp, fun j x h1 h2 => by omega, ⟨rfl, .inl ⟨rfl, rfl⟩⟩, Below.refl _ _⟩
  case round =>
    obtain ⟨k, a, out, hak, hk, rfl, rfl, ho, hok, heq, hno, hown, hb⟩ := hrel
    have hz := hb.size
    obtain ⟨A5, c5, rfl, hc5, _⟩ := Reads.of_own hown
    have HO := Lib.hid hown
    have hend : ∀ W v, W.ownsRow w.heap.size 9 1 v (out ++ [s.data.toList.drop a]).length ((out ++ [s.data.toList.drop a]).map vS) → (k = s.size ∨ out.length = m - 1) → Below w.heap.size w W → P (.returned v) W := fun W v h1 h2 h3 => by
      have h4 : cutK (m - 1) s.data.toList = out ++ [s.data.toList.drop a] := by
        rw [heq]
        congr 1
        rcases h2 with h2 | h2
        · refine cutK_no ?_ _
          have := no_com hno
          rwa [List.take_of_length_le (by omega)] at this
        · rw [h2, Nat.sub_self]; rfl
      exact HF.out v W (by rw [h4]; exact h1) h3
    have Hend := Lib.hid hend
    clear hown hend
    by_cases hlt : k < s.size
    · by_cases hmx : out.length < m - 1
      · have hmi : (out.length : Int) < (m : Int) - 1 := by omega
        have hgk : s.data.toList[k]? = some s[k] := (get_eq s k hlt s[k]).2 rfl
        by_cases h44 : s[k] = 44
        · have e44 : ((s[k].toNat : Int) == 44) = true := by rw [h44]; rfl
          have hx1 : (s.extract a k).data.toList = (s.data.toList.take k).drop a := ext_data s a k
          have hdr : s.data.toList.drop a = (s.data.toList.take k).drop a ++ 44 :: s.data.toList.drop (k + 1) := by
            have hkl : k < s.data.toList.length := by omega
            conv => lhs; rw [← List.take_append_drop k s.data.toList]
            rw [List.drop_append_of_le_length (by rw [List.length_take]; omega), List.drop_eq_getElem_cons hkl]
            congr 2
          have hq2 : cutK (m - 1) s.data.toList = (out ++ [(s.data.toList.take k).drop a]) ++ cutK (m - 1 - (out ++ [(s.data.toList.take k).drop a]).length) (s.data.toList.drop (k + 1)) := by
            obtain ⟨n, hn⟩ : ∃ n, m - 1 - out.length = n + 1 := ⟨m - 1 - out.length - 1, by omega⟩
            rw [heq, hn, hdr, cutK_com (no_com hno)]
            have : m - 1 - (out ++ [(s.data.toList.take k).drop a]).length = n := by simp; omega
            rw [this]
            simp
          have hvx : Value.string (s.extract a k) = vS ((s.data.toList.take k).drop a) := by unfold vS; rw [← hx1, ← B_of]
          have Hq2 := Lib.hid hq2
          have Hvx := Lib.hid hvx
          clear heq hno hgk hx1 hdr hq2 hvx h44
          go_wp2_with (at_builtin; refine app_s rfl _ _ rfl w.heap.size (.slice A5 out.length c5) out rfl wr _ _ Hvx.out HO.out (by omega) (by omega) rfl ?_; intro v6 w6 HO6 hb6; have HB6 := Lib.hid (hb.trans hb6))
          go_roundw
          case rel => exact ⟨k + 1, k + 1, _, Nat.le_refl _, by omega, by simp, by simp, by simp; omega, by simp; omega, Hq2.out, fun j x h1 h2 => by omega, HO6.out, HB6.out⟩
          case measure => simp [intOf]; omega
        · have e44 : ((s[k].toNat : Int) == 44) = false := by
            rw [beq_eq_false_iff_ne]
            exact fun e => h44 (UInt8.toNat_inj.1 (by show s[k].toNat = 44; omega))
          have Hno := Lib.hid (show ∀ j x, a ≤ j → j < k + 1 → s.data.toList[j]? = some x → x ≠ 44 from fun j x h1 h2 hx => by
            by_cases e : j = k
            · subst e; rw [hgk] at hx; injection hx with hx; rw [← hx]; exact h44
            · exact hno j x h1 (by omega) hx)
          have Heq := Lib.hid heq
          clear heq hno hgk h44
          go_wp2_with fail
          go_roundw
          case rel => exact ⟨k + 1, a, out, by omega, by omega, by simp, rfl, ho, by omega, Heq.out, Hno.out, HO.out, hb⟩
          case measure => simp [intOf]; omega
      · have hmi : ¬ (out.length : Int) < (m : Int) - 1 := by omega
        have hvx : Value.string (s.extract a s.size) = vS (s.data.toList.drop a) := by unfold vS; rw [← extr, ← B_of]
        have Hvx := Lib.hid hvx
        clear heq hno hvx
        go_wp2_with (at_builtin; refine app_s rfl _ _ rfl w.heap.size (.slice A5 out.length c5) out rfl wr _ _ Hvx.out HO.out (by omega) (by omega) rfl ?_; intro v6 w6 HO6 hb6; have HB6 := Lib.hid (hb.trans hb6))
        exact Hend.out _ _ HO6.out (.inr (by omega)) HB6.out
    · have hvx : Value.string (s.extract a s.size) = vS (s.data.toList.drop a) := by unfold vS; rw [← extr, ← B_of]
      have Hvx := Lib.hid hvx
      clear heq hno hvx
      go_wp2_with (at_builtin; refine app_s rfl _ _ rfl w.heap.size (.slice A5 out.length c5) out rfl wr _ _ Hvx.out HO.out (by omega) (by omega) rfl ?_; intro v6 w6 HO6 hb6; have HB6 := Lib.hid (hb.trans hb6))
      exact Hend.out _ _ HO6.out (.inl (by omega)) HB6.out
end Go.Proofs.YtlcgfgbdehdndaaDoor
