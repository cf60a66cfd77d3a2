/- SsaEvents holds, where MaxLen's cell holds a number. -/
import Derived.Test.YtmfnnggnnnagiabDoorVJ
set_option maxRecDepth 100000
set_option maxHeartbeats 8000000
namespace Go.Proofs.YtmfnnggnnnagiabDoor
open Go Go.RowKit

/-! Lines. -/
theorem eol_nil {r : List UInt8} (h : eolOf r = []) : r = [] := by
  unfold eolOf at h
  split at h
  · cases h
  · cases h
  · rfl
theorem one_line5 {t : List UInt8} (h2 : ∀ x, (linesL t)[0]? = some x → x.2.1 = []) : ∀ c ∈ t, nEol c = true := by
  by_cases ht : t = []
  · subst ht; simp
  · have hl : linesL t = (lnT t, lnE t, 0) :: linesF (t.length - 1) (t.drop ((lnT t).length + (lnE t).length)) (0 + ((lnT t).length + (lnE t).length)) := by
      unfold linesL
      obtain ⟨n, hn⟩ : ∃ n, t.length = n + 1 := ⟨t.length - 1, by cases t with | nil => exact absurd rfl ht | cons _ _ => simp⟩
      rw [hn, linesF, if_neg ht]; simp
    have h3 := h2 (lnT t, lnE t, 0) (by rw [hl]; rfl)
    have h4 : t.drop (lnT t).length = [] := eol_nil h3
    have h5 := tw_pre nEol t
    rw [show t.drop (t.takeWhile nEol).length = [] from h4, List.append_nil] at h5
    intro c hc
    rw [h5] at hc
    exact tw_mem _ _ _ hc
theorem line_crlf {A r : List UInt8} (hA : ∀ c ∈ A, nEol c = true) (f i : Nat) : linesF (f + 1) (A ++ 13 :: 10 :: r) i = (A, [13, 10], i) :: linesF f r (i + (A.length + 2)) := by
  have h1 : lnT (A ++ 13 :: 10 :: r) = A := tw_app nEol A _ hA (fun c hc => by simp at hc; subst hc; decide)
  have h2 : lnE (A ++ 13 :: 10 :: r) = [13, 10] := by unfold lnE; rw [h1, List.drop_left]; rfl
  rw [linesF, if_neg (by simp), h1, h2]
  congr 2
  rw [show A ++ 13 :: 10 :: r = (A ++ [13, 10]) ++ r by simp, show A.length + [(13 : UInt8), 10].length = (A ++ [13, 10]).length by simp, List.drop_left]
theorem line_last {A : List UInt8} (hA : ∀ c ∈ A, nEol c = true) (h0 : A ≠ []) (f i : Nat) : linesF (f + 1) A i = [(A, [], i)] := by
  have h1 : lnT A = A := by have := tw_app nEol A [] hA (fun c hc => by simp at hc); rwa [List.append_nil] at this
  have h2 : lnE A = [] := by unfold lnE; rw [h1, List.drop_length]; rfl
  rw [linesF, if_neg h0, h1, h2]
  congr 1
  rw [List.drop_of_length_le (by simp)]
  cases f <;> simp [linesF]
theorem cut_one {s : List UInt8} (h : (cutK 8 s).length ≤ 1) : 44 ∉ s := by
  rcases com_cases s with ⟨h1, _⟩ | ⟨a, r, rfl, h1, _⟩
  · exact h1
  · rw [cutK_com h1] at h
    have := cutK_ne 7 r
    cases hc : cutK 7 r with
    | nil => exact absurd hc this
    | cons _ _ => rw [hc] at h; simp at h
def hdrL : List UInt8 := [91, 69, 118, 101, 110, 116, 115, 93, 13, 10, 70, 111, 114, 109, 97, 116, 58, 32, 83, 116, 121, 108, 101, 44, 32, 83, 116, 97, 114, 116, 44, 78, 97, 109, 101, 32, 44, 32, 84, 101, 120, 116, 13, 10, 67, 111, 109, 109, 101, 110, 116, 58, 32]
def fmtS : List UInt8 := [70, 111, 114, 109, 97, 116, 58, 32, 83, 116, 121, 108, 101, 44, 32, 83, 116, 97, 114, 116, 44, 78, 97, 109, 101, 32, 44, 32, 84, 101, 120, 116]
def comL : List UInt8 := [67, 111, 109, 109, 101, 110, 116, 58, 32]
def momL : List UInt8 := [49, 58, 48, 50, 58, 48, 51, 46, 48, 52]
def nStyle : List UInt8 := [83, 116, 121, 108, 101]
def nName : List UInt8 := [78, 97, 109, 101]
def nTextT : List UInt8 := [84, 101, 120, 116]
def evText (a b c : List UInt8) : List UInt8 := hdrL ++ (a ++ (44 :: (momL ++ (44 :: (b ++ (44 :: c))))))
def evPs (a b c : List UInt8) : List Pc := [mk kEvents, mk [13, 10], mk fmtS, mk [13, 10], mk comL, (false, nStyle, a), mk [44], mk momL, mk [44], (false, nName, b), mk [44], (false, nTextT, c)]
theorem ev1 : ssaL (false, []) kEvents = some ((true, []), [mk kEvents]) := by decide +kernel
theorem ev2 : ssaL (true, []) fmtS = some ((true, [nStyle, kStart, nName, nTextT]), [mk fmtS]) := by decide +kernel
theorem ev3 {a b c : List UInt8} (ha : 44 ∉ a) (hb : 44 ∉ b) : ssaL (true, [nStyle, kStart, nName, nTextT]) (comL ++ (a ++ (44 :: (momL ++ (44 :: (b ++ (44 :: c))))))) = some ((true, [nStyle, kStart, nName, nTextT]), [mk comL, (false, nStyle, a), mk [44], mk momL, mk [44], (false, nName, b), mk [44], (false, nTextT, c)]) := by
  have e : comL ++ (a ++ (44 :: (momL ++ (44 :: (b ++ (44 :: c)))))) = [67, 111, 109, 109, 101, 110, 116] ++ 58 :: 32 :: (a ++ (44 :: (momL ++ (44 :: (b ++ (44 :: c)))))) := rfl
  rw [e, ssa_key _ _ (by decide) (by decide) (by decide), if_neg (by decide), if_pos rfl]
  have hc : cutK 3 (a ++ (44 :: (momL ++ (44 :: (b ++ (44 :: c)))))) = [a, momL, b, c] := by
    rw [cutK_com ha, cutK_com (by decide), cutK_com hb, cutK_zero]
  have h1 : evP nStyle a = some (false, nStyle, a) := by unfold evP; rw [if_neg (by decide)]
  have h2 : evP kStart momL = some (mk momL) := by decide +kernel
  have h3 : evP nName b = some (false, nName, b) := by unfold evP; rw [if_neg (by decide)]
  have h4 : evP nTextT c = some (false, nTextT, c) := by unfold evP; rw [if_neg (by decide)]
  have hev : evL ([67, 111, 109, 109, 101, 110, 116] ++ [58, 32]) (a ++ (44 :: (momL ++ (44 :: (b ++ (44 :: c)))))) [nStyle, kStart, nName, nTextT] = some [mk comL, (false, nStyle, a), mk [44], mk momL, mk [44], (false, nName, b), mk [44], (false, nTextT, c)] := by
    unfold evL
    rw [if_neg (by decide), show ([nStyle, kStart, nName, nTextT] : List (List UInt8)).length - 1 = 3 from rfl, hc, if_neg (by simp)]
    simp only [evsL, h1, h2, h3, h4]
    rfl
  rw [hev]
  rfl
theorem ev_walk {a b c : List UInt8} (na : ∀ x ∈ a, nEol x = true) (nb : ∀ x ∈ b, nEol x = true) (nc : ∀ x ∈ c, nEol x = true) (ha : 44 ∉ a) (hb : 44 ∉ b) : walkS ssaL (false, []) (linesL (evText a b c)) = .inl (evPs a b c) := by
  have n3 : ∀ x ∈ comL ++ (a ++ (44 :: (momL ++ (44 :: (b ++ (44 :: c)))))), nEol x = true := by
    intro x hx
    simp only [List.mem_append, List.mem_cons] at hx
    rcases hx with hx | hx | rfl | hx | rfl | hx | rfl | hx
    · exact (show ∀ y ∈ comL, nEol y = true by decide) x hx
    · exact na x hx
    · decide
    · exact (show ∀ y ∈ momL, nEol y = true by decide) x hx
    · decide
    · exact nb x hx
    · decide
    · exact nc x hx
  have e : evText a b c = kEvents ++ 13 :: 10 :: (fmtS ++ 13 :: 10 :: (comL ++ (a ++ (44 :: (momL ++ (44 :: (b ++ (44 :: c)))))))) := rfl
  have hl : ∃ f, (evText a b c).length = f + 1 + 1 + 1 := ⟨(evText a b c).length - 3, by rw [e]; simp; omega⟩
  obtain ⟨f, hf⟩ := hl
  unfold linesL
  rw [hf, e, line_crlf (by decide), line_crlf (by decide), line_last n3 (by unfold comL; simp), walkS_some ev1, walkS_some ev2, walkS_some (ev3 ha hb)]
  simp [walkS, pre, endP, evPs]
end Go.Proofs.YtmfnnggnnnagiabDoor
