/- Contract of the document's answer for layer 3: Decode; condition: fewer than 100,000 bytes. -/
import Derived.Test.YtblcknhkjkcmjaaDoorW7
set_option maxRecDepth 100000
set_option maxHeartbeats 1000000
namespace Go.Proofs.YtblcknhkjkcmjaaDoor
open Go Go.RowKit

def RDecRel (big : Bool) (ps : List Int) (w0 : World) (s i : Value) (wr : World) : Prop :=
  ∃ k j : Nat, WRun big ps k (2 * j) ∧ i = .int .i64 j ∧ s = .string ⟨(textL (ps.take k)).toArray⟩ ∧ Below w0.heap.size w0 wr

def DecPost (big : Bool) (ps : List Int) (r : List UInt8) (e : Ending) : Prop :=
  (r = [] ∧ e = .returned (.tuple #[.string ⟨(textL ps).toArray⟩, .int .i64 (-1)])) ∨ (r ≠ [] ∧ e = .returned (.tuple #[.string ⟨#[]⟩, .int .i64 (wtext big ps).length]))
theorem DecPost.bad {big : Bool} {ps : List Int} {r : List UInt8} {j : Nat} (hr : r ≠ []) (h : Hid (2 * j = (wtext big ps).length)) : DecPost big ps r (.returned (.tuple #[.string ⟨#[]⟩, .int .i64 (2 * (j : Int))])) := by
  refine .inr ⟨hr, ?_⟩
  rw [← h.out]
  simp

theorem DecPost.good {big : Bool} {ps : List Int} {r : List UInt8} (hr : r = []) : DecPost big ps r (.returned (.tuple #[.string ⟨(textL ps).toArray⟩, .int .i64 (-1)])) := .inl ⟨hr, rfl⟩
theorem RDecode_pre (big : Bool) (s : ByteArray) (ps : List Int) (r : List UInt8) (hp : WPre big s ps r) (hr : r = [] ∨ (wsign big r).2 = 0) (hs : s.size ≤ 100000) (w : World) :
    Calls Tryd.prog 26 #[.string s, .bool big] w fun e w' =>
      DecPost big ps r e ∧ Below w.heap.size w w' := by
  have hul := unitsL_len big s.data.toList
  have hsl : s.data.toList.length = s.size := by simp
  rw [hsl] at hul
  go_enter Tryd.func26, Tryd.ntmps26
  go_wp2_with (go_at_call 56; refine (RUnits_any s (by omega) big _).mono ?_; rintro e w1 ⟨A, c, rfl, hn, hb1⟩)
  have hz1 := hb1.size
  go_loopw [7, 8] (fun s i wr => RDecRel big ps w1 s i wr) (fun _ i _ => (unitsL big s.data.toList).length + 1 - (intOf i).toNat)
  case atStart => exact ⟨0, 0, WRun.zero _ _, rfl, rfl, Below.refl _ _⟩
  case round =>
    obtain ⟨k, j, hrun, rfl, rfl, hb⟩ := hrel
    have hsz := hb.size
    have hnr := hn.below hb
    have hle := hrun.le hp
    have h4 := (len_textL (ps.take k)).2
    rw [List.length_take] at h4
    have hdu := unitsL_drop big j s.data.toList
    by_cases hk : k < ps.length
    · obtain ⟨p, n, hst, hrun', hn1, hn4, hin, hp0, hp1⟩ := hrun.step hp hk
      have hsg := hst.sign
      have hsc := hst.2.2.2
      rw [wsign_usign, hdu] at hsg
      have hnext : Hid ((⟨(textL (ps.take (k + 1))).toArray⟩ : ByteArray) = ⟨(textL (ps.take k)).toArray⟩ ++ ⟨(Lib.encodeRune p).toArray⟩) := by
        rw [hst.snoc hk, textL_snoc]; exact (mk_append _ _).symm
      have he := enc_len p
      have hn2 := (Prod.ext_iff.1 hsg).2
      simp only at hn2
      by_cases hone : n = 2
      · have hu1 : usign ((unitsL big s.data.toList).drop j) = (p, 1) := Prod.ext (Prod.ext_iff.1 hsg).1 (by simp only; omega)
        obtain ⟨r', hd, hpr⟩ := usign_one hu1
        obtain ⟨hjl, hju⟩ := drop_get hd
        obtain ⟨ad, u, rfl, _, hc, hu, _⟩ := hnr.get hjl
        have hup : u = p := by rw [← hu.out, hju]
        subst hup
        subst hone
        clear hdu hsg hu1 hd hju hnr hn hp hr
        by_cases hlow : u < 55296
        · have hx : ¬ 55296 ≤ u := by omega
          go_wp2_with (go_at_call 57; refine (RBytes_any hsc _).mono ?_; rintro e w2 ⟨rfl, hb2⟩)
          go_roundw
          case rel => exact ⟨k + 1, j + 1, hrun', by go_num, by rw [hnext.out], hb.trans (hb2.mono hsz)⟩
          case measure => simp [intOf]; omega
        · have hx : 55296 ≤ u := by omega
          have hy : ¬ u ≤ 57343 := by omega
          go_wp2_with (go_at_call 57; refine (RBytes_any hsc _).mono ?_; rintro e w2 ⟨rfl, hb2⟩)
          go_roundw
          case rel => exact ⟨k + 1, j + 1, hrun', by go_num, by rw [hnext.out], hb.trans (hb2.mono hsz)⟩
          case measure => simp [intOf]; omega
      · have hu2 : usign ((unitsL big s.data.toList).drop j) = (p, 2) := Prod.ext (Prod.ext_iff.1 hsg).1 (by simp only; omega)
        obtain ⟨u', v', r', hd, hb0, hb1', hb2', hb3, hpe⟩ := usign_two hu2
        obtain ⟨hjl, hju, hjv⟩ := drop_get2 hd
        obtain ⟨ad, u, rfl, _, hc, hu, _⟩ := hnr.get (i := j) (by omega)
        obtain ⟨ad', v, had, _, hc', hv, _⟩ := hnr.get hjl
        obtain rfl := Option.some.inj had
        have hc2 : wr.cell? ⟨ad.block, ad.off + (j + 1), none⟩ = some (.int .i64 v) := by simpa [Addr.add] using hc'
        have hup : u = u' := by rw [← hu.out, hju]
        have hvp : v = v' := by rw [← hv.out, hjv]
        subst hup
        subst hvp
        have hn4' : n = 4 := by omega
        subst hn4'
        have hx1 : 55296 ≤ u := by omega
        have hx2 : u ≤ 57343 := by omega
        have hx3 : ¬ 56319 < u := by omega
        have hx4 : ¬ v < 56320 := by omega
        have hx5 : ¬ 57343 < v := by omega
        have hpe' : p = 65536 + (u - 55296) * 1024 + v - 56320 := by omega
        clear hpe
        subst hpe'
        clear hdu hsg hu2 hd hju hjv hnr hn hp hr
        go_wp2_with (go_at_call 57; refine (RBytes_any hsc _).mono ?_; rintro e w2 ⟨rfl, hb2⟩)
        go_roundw
        case rel => exact ⟨k + 1, j + 1 + 1, hrun', by go_num, by rw [hnext.out], hb.trans (hb2.mono hsz)⟩
        case measure => simp [intOf]; omega
    · have hk2 : k = ps.length := by omega
      subst hk2
      obtain ⟨hi2, hdr, hir⟩ := hrun.end_ hp
      rw [List.take_length] at h4 ⊢
      have Hi := Lib.hid hi2
      by_cases hlt : j < (unitsL big s.data.toList).length
      · have hr0 : r ≠ [] := by rintro rfl; simp at hir; omega
        have hz := hr.resolve_left hr0
        rw [← hdr, wsign_usign, hdu] at hz
        have hz' : (usign ((unitsL big s.data.toList).drop j)).2 = 0 := by simp only at hz; omega
        have hne : (unitsL big s.data.toList).drop j ≠ [] := by
          intro h
          have := congrArg List.length h
          simp at this
          omega
        obtain ⟨u', r', hd, hb0, hb1', hcase⟩ := usign_no hz' hne
        obtain ⟨hjl, hju⟩ := drop_get hd
        obtain ⟨ad, u, rfl, _, hc, hu, _⟩ := hnr.get hjl
        have hup : u = u' := by rw [← hu.out, hju]
        subst hup
        have hx1 : 55296 ≤ u := by omega
        have hx2 : u ≤ 57343 := by omega
        rcases hcase with hc1 | ⟨hc1, rfl⟩ | ⟨hc1, v', t, rfl, hc2⟩
        · have hx3 : 56319 < u := by omega
          clear hdu hz hz' hne hd hju hnr hn hp hr hdr hi2
          go_wp2_with fail
          go_ret2
          exact ⟨DecPost.bad hr0 Hi, hb1.trans (hb.mono hz1)⟩
        · have hx3 : ¬ 56319 < u := by omega
          have hlast : (unitsL big s.data.toList).length ≤ j + 1 := by
            have := congrArg List.length hd
            simp at this
            omega
          clear hdu hz hz' hne hd hju hnr hn hp hr hdr hi2
          go_wp2_with fail
          go_ret2
          exact ⟨DecPost.bad hr0 Hi, hb1.trans (hb.mono hz1)⟩
        · have hx3 : ¬ 56319 < u := by omega
          obtain ⟨hjl2, _, hjv⟩ := drop_get2 hd
          obtain ⟨ad', v, had, _, hc', hv, _⟩ := hnr.get hjl2
          obtain rfl := Option.some.inj had
          have hc2 : wr.cell? ⟨ad.block, ad.off + (j + 1), none⟩ = some (.int .i64 v) := by simpa [Addr.add] using hc'
          have hvp : v = v' := by rw [← hv.out, hjv]
          subst hvp
          clear hdu hz hz' hne hd hju hnr hn hp hr hdr hi2 hjv
          by_cases hc3 : v < 56320
          · go_wp2_with fail
            go_ret2
            exact ⟨DecPost.bad hr0 Hi, hb1.trans (hb.mono hz1)⟩
          · have hc4 : 57343 < v := by omega
            go_wp2_with fail
            go_ret2
            exact ⟨DecPost.bad hr0 Hi, hb1.trans (hb.mono hz1)⟩
      · have hge : ¬ (j : Int) < ((unitsL big s.data.toList).length : Int) := by omega
        by_cases hr0 : r = []
        · have hev : (s.size : Int) % 2 = 0 := by rw [hr0] at hir; simp at hir; omega
          clear hdu hnr hn hp hr hdr hi2
          go_wp2_with fail
          go_ret2
          exact ⟨DecPost.good rfl, hb1.trans (hb.mono hz1)⟩
        · have hl1 : 0 < r.length := List.length_pos_iff.2 hr0
          have hev : (s.size : Int) % 2 = 1 := by omega
          have hse : (s.size : Int) - 1 = 2 * (j : Int) := by omega
          clear hdu hnr hn hp hr hdr hi2
          go_wp2_with fail
          go_ret2
          exact ⟨DecPost.bad hr0 Hi, hb1.trans (hb.mono hz1)⟩

theorem RDecode_good (big : Bool) (s : ByteArray) (ps : List Int) (hp : WGood big s ps) (hs : s.size ≤ 100000) (w : World) :
    Calls Tryd.prog 26 #[.string s, .bool big] w fun e w' => e = .returned (.tuple #[.string ⟨(textL ps).toArray⟩, .int .i64 (-1)]) ∧ Below w.heap.size w w' := by
  refine (RDecode_pre big s ps [] hp (.inl rfl) hs w).mono fun e w' ⟨h, hb⟩ => ?_
  rcases h with ⟨_, h⟩ | ⟨h, _⟩
  · exact ⟨h, hb⟩
  · exact absurd rfl h
theorem RDecode_bad (big : Bool) (s : ByteArray) (n : Nat) (hg : WBadAt big s n) (hs : s.size ≤ 100000) (w : World) :
    Calls Tryd.prog 26 #[.string s, .bool big] w fun e w' => e = .returned (.tuple #[.string ⟨#[]⟩, .int .i64 n]) ∧ Below w.heap.size w w' := by
  obtain ⟨ps, r, hp, rfl, hr, he⟩ := hg
  refine (RDecode_pre big s ps r hp (.inr he) hs w).mono fun _ _ ⟨h, hb⟩ => ?_
  rcases h with ⟨h, _⟩ | ⟨_, h⟩
  · exact absurd h hr
  · exact ⟨h, hb⟩
end Go.Proofs.YtblcknhkjkcmjaaDoor
