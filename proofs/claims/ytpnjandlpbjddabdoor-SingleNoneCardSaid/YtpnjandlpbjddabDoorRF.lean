/- Contract of byFrom: the rows stand by rising codes; condition: they are the call's own. -/
import Derived.Test.YtpnjandlpbjddabDoorRE
import Derived.Sort.OwnSortedInts
set_option maxRecDepth 100000
set_option maxHeartbeats 1000000
namespace Go.Proofs.YtpnjandlpbjddabDoor
open Go Go.RowKit

theorem cmp_row (x y : Rw × Sl) (W : World) :
    Calls Tryd.prog 66 #[.agg (rV x).toArray, .agg (rV y).toArray] W fun e w' => e = .returned (.int .i64 (Lib.compareInt (x.1.1 : Int) (y.1.1 : Int))) ∧ ∃ q os', w' = Go.Sort.grow (W.drewN q) os' := by
  have hcon := fun W' => Tryd.cmp_Compare_int (x.1.1 : Int) (y.1.1 : Int) W'
  generalize Lib.compareInt (x.1.1 : Int) (y.1.1 : Int) = r at hcon ⊢
  have hcon : ∀ W, Calls Tryd.prog 29 #[.int .i64 (x.1.1 : Int), .int .i64 (y.1.1 : Int)] W fun e w' => e = .returned (.int .i64 r) ∧ W = w' := fun W => (hcon W).mono fun e w' h => ⟨h.1, h.2.symm⟩
  unfold rV slV
  go_enter Tryd.func66, Tryd.ntmps66
  go_wp2_with (go_at_call 29; refine (hcon _).mono ?_; rintro e w' ⟨rfl, rfl⟩)
  go_ret
  exact ⟨rfl, 0, _, by rw [Go.Sort.alloc_eq_grow, Go.Sort.alloc_eq_grow, Go.Sort.grow_grow]; rfl⟩
def cfR (x y : Rw × Sl) : Int := Lib.compareInt (x.1.1 : Int) (y.1.1 : Int)
theorem lt_row (x y : Rw × Sl) : ltOf cfR x y = decide (x.1.1 < y.1.1) := by
  unfold ltOf cfR Lib.compareInt
  by_cases h1 : x.1.1 < y.1.1
  · simp [h1]
  · by_cases h2 : y.1.1 < x.1.1 <;> simp [h1, h2]
theorem swo_row : Go.Sort.SWO (ltOf cfR) :=
  ⟨fun x => by rw [lt_row]; simp, fun x y z h1 h2 => by rw [lt_row] at *; simp at *; omega, fun x y z h1 h2 => by rw [lt_row] at *; simp at *; omega⟩
theorem cmp_lays (blk off size : Nat) (w : World) : CmpLays Tryd.prog 66 #[] rV 4 cfR blk off size w :=
  fun _ _ _ _ x y => cmp_row x y _
theorem rV_one : ∀ x : Rw × Sl, ∀ v ∈ rV x, v.oneCell' = true := fun x v hv => by
  simp only [rV, slV, List.mem_cons, List.not_mem_nil, or_false] at hv
  rcases hv with rfl | rfl | rfl | rfl <;> rfl
theorem flat4_at {α : Type} (f : α → List Value) (hf : ∀ x, (f x).length = 4) : ∀ (l : List α) (k i : Nat) (x : α), l[k]? = some x → i < 4 → (l.flatMap f)[k * 4 + i]? = (f x)[i]?
  | [], k, i, x, h, _ => by simp at h
  | a :: l, 0, i, x, h, hi => by
    simp at h; subst h
    rw [List.flatMap_cons, Nat.zero_mul, Nat.zero_add, List.getElem?_append_left (by rw [hf]; exact hi)]
  | a :: l, k + 1, i, x, h, hi => by
    rw [List.flatMap_cons, List.getElem?_append_right (by rw [hf]; omega), hf, show (k + 1) * 4 + i - 4 = k * 4 + i by omega]
    exact flat4_at f hf l k i x (by simpa using h) hi
theorem flat4_len {α : Type} (f : α → List Value) (hf : ∀ x, (f x).length = 4) : ∀ l : List α, (l.flatMap f).length = l.length * 4
  | [] => rfl
  | a :: l => by rw [List.flatMap_cons, List.length_append, hf, flat4_len f hf l, List.length_cons]; omega
theorem flat_get (ts : List (Rw × Sl)) (j : Nat) (hj : j < ts.length * 4) : some (Go.Sort.flatK rV 4 ts.toArray)[j]! = (ts.flatMap rV)[j]? := by
  have hk : j / 4 < ts.length := by omega
  have he : j = j / 4 * 4 + j % 4 := by omega
  rw [Go.Sort.get_flatK _ _ _ _ (by simpa using hj)]
  conv => rhs; rw [he]
  rw [flat4_at rV rV_len ts (j / 4) (j % 4) ts[j / 4] (List.getElem?_eq_getElem hk) (Nat.mod_lt _ (by omega))]
  have e1 : ts.toArray[j / 4]! = ts[j / 4] := by simp [hk]
  have hlt : j % 4 < (rV ts[j / 4]).length := by rw [rV_len]; exact Nat.mod_lt _ (by omega)
  rw [e1, List.getElem?_eq_getElem hlt, getElem!_pos (rV ts[j / 4]) (j % 4) hlt]
/-- Rows that the call owns, as the sort reads them. -/
theorem holds_rows {w : World} {base g cap : Nat} {e : TypeId} {ts : List (Rw × Sl)} (h : w.ownsRow base e 4 (.slice (some ⟨g, 0, none⟩) ts.length cap) ts.length (ts.flatMap rV)) : Go.Sort.HoldsK rV 4 w g 0 ts.toArray := by
  intro j hj
  have hj' : j < ts.length * 4 := by simpa using hj
  have hl : (ts.flatMap rV).length = ts.length * 4 := h.1
  refine ⟨?_, ?_⟩
  · rw [Nat.zero_add, h.cellAt j hj', ← flat_get ts j hj']; rfl
  · rw [Nat.zero_add]; exact h.frozenAt j
theorem grown_rows {w : World} {g n : Nat} {os : Array Obj} (d : Array (Rw × Sl)) : w.grownBy (sortWorldK rV 4 w g 0 n d os) (some g) := by
  unfold sortWorldK Go.Sort.putRowK
  refine ⟨rfl, rfl, rfl, by simp, fun k hk hne => ?_⟩
  rw [Go.Sort.heap_grow_old _ _ (by simpa using hk)]
  have : g ≠ k := fun e => hne (by rw [e])
  simp [Go.Sort.putRow, Go.Sort.mapBlock, Go.Sort.ahead, Array.getElem?_modify, this]
/-- Rows as they lie behind a slice that stays. -/
def RdsR (w : World) (B : Nat) (A : Option Addr) (rs : List (Rw × Sl)) : Prop := Reads w B 4 A rs.length (rs.flatMap rV) ∧ ∀ ad, A = some ad → ad.spot = none
def SfPost (base g : Nat) (rs : List (Rw × Sl)) (w0 : World) (e : Ending) (w' : World) : Prop :=
  e = .returned (.tuple #[]) ∧ ∃ rs' : List (Rw × Sl), rs'.Perm rs ∧ rs'.Pairwise (fun a b => a.1.1 ≤ b.1.1) ∧ (∀ j u, (rs'.flatMap rV)[j]? = some u → w'.cell? ⟨g, j, none⟩ = some u) ∧ w0.heap.size ≤ w'.heap.size ∧ Below base w0 w' ∧ w0.grownBy w' (some g)
theorem Sort_any (base g cap : Nat) (rs : List (Rw × Sl)) (w : World) (h : w.ownsRow base 73 4 (.slice (some ⟨g, 0, none⟩) rs.length cap) rs.length (rs.flatMap rV)) (hbase : base ≤ w.heap.size) (hn : rs.length < 4611686018427387904) :
    Calls Tryd.prog 65 #[.slice (some ⟨g, 0, none⟩) rs.length cap, .func (.func 66) #[] #[]] w (SfPost base g rs w) := by
  have hlt := (h.lt g rfl)
  have eg : ∀ args w, (callFunc 66 args).run Tryd.prog w = .ok (.enter 66 args) w := enters_of Tryd.func66 (by kernel_rfl) rfl
  have hH := holds_rows h
  have hcon := AnyQ.slices_SortFunc Tryd.laysSort 4 Tryd.isAgg73 Tryd.sizeOf73 rV rV_len rV_one cfR swo_row 66 #[] g 0 cap rs.toArray w eg (cmp_lays g 0 rs.toArray.size w) hH hlt.2 (by simpa using hn)
  change Calls Tryd.prog 65 _ _ _ at hcon
  have hsz : rs.toArray.size = rs.length := by simp
  rw [hsz] at hcon
  refine hcon.mono ?_
  rintro e w' ⟨rfl, d', n, os, hp, hs, rfl⟩
  obtain ⟨hp1, _, hp3⟩ := hp
  have hd : d'.size = rs.length := by rw [hp1, hsz]
  have hx1 : d'.extract 0 rs.length = d' := by rw [← hd]; simp
  have hx2 : rs.toArray.extract 0 rs.length = rs.toArray := by simp
  rw [hx1, hx2] at hp3
  have hK := holdsK_sortWorldK rV 4 w g 0 n rs.toArray d' os hlt.2 hH (by rw [hd, hsz])
  refine ⟨rfl, d'.toList, by simpa using hp3, ?_, fun j u hu => ?_, ?_, ?_, grown_rows d'⟩
  · rw [List.pairwise_iff_getElem]
    intro i j hi hj hij
    simp only [Array.length_toList] at hi hj
    have := hs i j (Nat.zero_le _) hij (by omega)
    rw [lt_row, decide_eq_false_iff_not, getElem!_pos d' j hj, getElem!_pos d' i hi] at this
    simp only [Array.getElem_toList]
    omega
  · have hl : (d'.toList.flatMap rV).length = d'.size * 4 := by rw [flat4_len rV rV_len]; simp
    have hj : j < d'.size * 4 := by
      rcases Nat.lt_or_ge j (d'.size * 4) with h1 | h1
      · exact h1
      · rw [List.getElem?_eq_none (by omega)] at hu; cases hu
    have h1 := (hK j (by rw [Go.Sort.size_flatK]; exact hj)).1
    have h2 := flat_get d'.toList j (by simpa using hj)
    rw [hu] at h2
    rw [Nat.zero_add] at h1
    rw [h1, ← h2]
    rfl
  · exact (grown_rows (os := os) (n := n) d').size
  · exact (Below.refl base w).grown (grown_rows d') hbase fun k hk => by injection hk with hk; omega
end Go.Proofs.YtpnjandlpbjddabDoor
