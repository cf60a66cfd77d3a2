/- Lemmas for a statement on the tops; conditions: as each says. -/
import Derived.Test.YtlglfmbccihopaaGreatDoorM17
set_option linter.unusedVariables false
set_option linter.unusedSimpArgs false
set_option maxRecDepth 100000
set_option maxHeartbeats 1000000
namespace Go.Proofs.YtlglfmbccihopaaGreatDoor
open Go Go.RowKit
def Zpw (big:Bool)(ps:List Int)(w0:World)(O:Obj)(v i:Value)(wr:World):Prop:=
 ∃k j:Nat,ZaI big ps k j∧i= .int .i64 j∧wr.ownsRow (w0.heap.size+1) 5 1 v (ZB (ps.take k)).length ((ZB (ps.take k)).map (Value.int .u8))∧Below (w0.heap.size+1) (w0.alloc O) wr
theorem Zc4.sgn {big:Bool} {s:ByteArray} {ps:List Int} {k i n:Nat} {p:Int} (h:Zc4 big s ps k i p n)(hi:i≤s.size)(hs:s.size≤140737488355328)(w:World):
 Calls Tryz.prog 147 #[.string s,.int .i64 i,.bool big] w fun e w'=>e= .returned (.tuple #[.int .i32 p,.int .i64 n])∧Below w.heap.size w w':=by
 have h2:=Zju s i hi hs big w;rw [h.sign] at h2;exact h2
theorem Zo7 {big:Bool} {s:ByteArray} {i:Nat} (hd:(Zm big (s.data.toList.drop i)).2=0)(hi:i≤s.size)(hs:s.size≤140737488355328)(w:World):
 Calls Tryz.prog 147 #[.string s,.int .i64 i,.bool big] w fun e w'=>(∃x,e= .returned (.tuple #[.int .i32 x,.int .i64 0]))∧Below w.heap.size w w':=by
 have h2:=Zju s i hi hs big w;rw [hd] at h2;exact h2.mono fun e w' ⟨he,hb⟩=>⟨⟨_,he⟩,hb⟩
theorem ZjD (big:Bool)(s:ByteArray)(ps:List Int)(r:List UInt8)(hp:Zc3 big s ps r)(hr:r=[]∨(Zm big r).2=0)(hs:s.size≤35184372088000)(w:World):
 Calls Tryz.prog 79 #[.string s,.bool big] w fun e w'=>
  ((r=[]∧e= .returned (.tuple #[.string ⟨(Zc ps).toArray⟩,.agg #[.int .i64 0,.int .i64 0]]))∨(r≠[]∧e= .returned (.tuple #[.string ⟨#[]⟩,.agg #[.int .i64 2,.int .i64 (ZI big ps).length]])))∧Below w.heap.size w w':=by
 go_enter Tryz.func79,Tryz.ntmps79
 go_wp2_with fail
 go_loopw [6,7] (fun v i wr=>Zpw big ps w (.cells #[.int .i64 0,.int .i64 0] 39) v i wr) (fun _ i _=>s.size - (intOf i).toNat)
 case atStart=>exact⟨0,0,ZaI.zero _ _,rfl,World.ownsRow_nil _ _ _ _,Below.refl _ _⟩
 case round=>
  obtain⟨k,i,hrun,rfl,hown,hb⟩:=hrel;have hle:=hrun.le hp;have hsz:=hb.size;have hsz':w.heap.size+1≤wr.heap.size:=by simpa using hsz
  have h4k:=(ZaL (ps.take k)).2;rw [List.length_take] at h4k;have hzl:=Zgg (ps.take k);by_cases hk:k<ps.length
  · obtain⟨p,n,hst,hrun',hn1,hn4,hin,hp0,hp1⟩:=hrun.step hp hk;have hcap:(ZB (ps.take k)).length+4≤140737488355328:=by omega
    have hnext:Hid ((ZB (ps.take (k+1))).map (Value.int .u8)=(ZB (ps.take k)).map (Value.int .u8)++Lib.runeCells p):=by
     rw [hst.snoc hk,Zgh,List.map_append];rfl
    have hnext2:Hid ((ZB (ps.take (k+1))).length=(ZB (ps.take k)).length+(Lib.runeCells p).length):=by
     have:=congrArg List.length hnext.out;simp only [List.length_map,List.length_append] at this;exact this
    clear h4k hzl;go_wp2_with (first|(go_at_call 147;refine(hst.sgn (by omega) (by omega) _).mono ?_;rintro e w1 ⟨rfl,hb1⟩;have hown1:=ZE hown hb1;have hB1:=hb.trans (hb1.mono hsz');have hsz1:=hB1.size)|(go_at_call 148;refine(Tryz.utf8_AppendRune_plain _ _ _ _ p (by omega) (by omega) _ hown1 hcap (by simp at hsz1;omega)).mono ?_;rintro e w2 ⟨v',rfl,hown2,o,hg2⟩))
    have hb2:=Zad (hB1.alloc (by simp at hsz1;omega) o) (hown1.alloc o) hg2 (by simp at hsz1⊢;omega) (Nat.le_refl _);rw [←hnext.out,←hnext2.out] at hown2;go_roundw
    case rel=>exact⟨k+1,i+n,hrun',by go_num,hown2,hb2⟩
    case measure=>simp [intOf];omega
  · have hk2:k=ps.length:=by omega
    subst hk2;obtain⟨hi2,hdr,hir⟩:=hrun.end_ hp;rw [List.take_length] at hown;by_cases hr0:r=[]
    · have hge:¬i<s.size:=by rw [hr0] at hir;simp at hir;omega
      have hconv:=Zdx (P:=Tryz.prog) 96 9 5 Tryz.underlying96 Tryz.underlying5 Tryz.underlying9 wr hown;rw [Zgd] at hconv;obtain⟨hc0,hc1,hf0,hf1,hlt1⟩:=Zbq hb;clear hdr hir hi2;go_wp2_with fail
      refine bodyPost_ret (v:= .tuple #[.string ⟨(Zc ps).toArray⟩,.agg #[.int .i64 0,.int .i64 0]]) (by simp [results,Tryz.results79,go_sem,hc0,hc1]) rfl ⟨.inl ⟨hr0,rfl⟩,?_⟩;exact((((Below.refl _ w).alloc (Nat.le_refl _) _).trans (hb.mono (by omega))).setCell (Nat.le_refl _) _).setCell (Nat.le_refl _) _
    · have hlt:i<s.size:=by have:=List.length_pos_iff.2 hr0;omega
      have he:(Zm big (s.data.toList.drop i)).2=0:=by rw [hdr];exact hr.resolve_left hr0
      have Hi:=Lib.hid hi2;clear hdr hir hi2;go_wp2_with (go_at_call 147;refine(Zo7 he (by omega) (by omega) _).mono ?_;rintro e w1 ⟨⟨x,rfl⟩,hb1⟩;have hB1:=hb.trans (hb1.mono hsz');obtain⟨hc0,hc1,hf0,hf1,hlt1⟩:=Zbq hB1)
      refine bodyPost_ret (v:= .tuple #[.string ⟨#[]⟩,.agg #[.int .i64 2,.int .i64 i]]) (by simp [results,Tryz.results79,go_sem,hc0,hc1]) rfl ⟨.inr ⟨hr0,by rw [←Hi.out]⟩,?_⟩;exact((((Below.refl _ w).alloc (Nat.le_refl _) _).trans (hB1.mono (by omega))).setCell (Nat.le_refl _) _).setCell (Nat.le_refl _) _
theorem Zpy (big:Bool)(s:ByteArray)(ps:List Int)(hp:Zfd big s ps)(hs:s.size≤35184372088000)(w:World):
 Calls Tryz.prog 79 #[.string s,.bool big] w fun e w'=>e= .returned (.tuple #[.string ⟨(Zc ps).toArray⟩,.agg #[.int .i64 0,.int .i64 0]])∧Below w.heap.size w w':=by
 refine(ZjD big s ps [] hp (.inl rfl) hs w).mono fun e w' ⟨h,hb⟩=> ?_;rcases h with⟨_,h⟩|⟨h,_⟩
 · exact⟨h,hb⟩
 · exact absurd rfl h
theorem Zpx (big:Bool)(s:ByteArray)(n:Nat)(hg:Zfc big s n)(hs:s.size≤35184372088000)(w:World):
 Calls Tryz.prog 79 #[.string s,.bool big] w fun e w'=>e= .returned (.tuple #[.string ⟨#[]⟩,.agg #[.int .i64 2,.int .i64 n]])∧Below w.heap.size w w':=by
 obtain⟨ps,r,hp,rfl,hr,he⟩:=hg;refine(ZjD big s ps r hp (.inr he) hs w).mono fun _ _ ⟨h,hb⟩=> ?_;rcases h with⟨h,_⟩|⟨_,h⟩
 · exact absurd h hr
 · exact⟨h,hb⟩
def behind (s:ByteArray):ByteArray:=s.extract 2 s.size
end Go.Proofs.YtlglfmbccihopaaGreatDoor
