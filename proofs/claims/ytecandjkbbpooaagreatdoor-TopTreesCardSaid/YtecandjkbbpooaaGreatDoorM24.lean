/- Lemmas for a statement on the tops; conditions: as each says. -/
import Derived.Test.YtecandjkbbpooaaGreatDoorM4
import Derived.Test.YtecandjkbbpooaaGreatDoorM23
set_option linter.unusedVariables false
set_option linter.unusedSimpArgs false
set_option maxRecDepth 100000
set_option maxHeartbeats 4000000
namespace Go.Proofs.YtecandjkbbpooaaGreatDoor
open Go Go.RowKit
def Zcb (big:Bool)(u:Int):List Int:=if big then [u / 256,u % 256] else [u % 256,u / 256]
def Zdy (big:Bool)(p:Int):List Int:=if p<65536 then Zcb big p else Zcb big (55296+(p - 65536) / 1024)++Zcb big (56320+(p - 65536) % 1024)
def ZaU (big:Bool)(ps:List Int):List Int:=ps.flatMap (Zdy big)
theorem Znf (big:Bool)(a:List Int)(p:Int):ZaU big (a++[p])=ZaU big a++Zdy big p:=by simp [ZaU]
theorem Zud (big:Bool)(p:Int):(Zdy big p).map (fun z=>z.toNat.toUInt8)=Zaz big p:=by
 unfold Zdy Zaz Zcb two;cases big<;>by_cases h:p<65536<;>simp [h]
theorem Zne (big:Bool)(ps:List Int):(ZaU big ps).map (fun z=>z.toNat.toUInt8)=Zr big ps:=by
 induction ps with
 |nil=>rfl
 |cons p ps ih=>
  rw [Zdz,←ih,←Zud];simp [ZaU]
theorem Ztt (big:Bool)(ps:List Int):strOfNums (ZaU big ps)=⟨(Zr big ps).toArray⟩:=by
 rw [←Zne];rfl
theorem Zcu (w:World)(x y:Value)(t:TypeId):∀j u,[x,y][j]? =some u→(w.alloc (.cells #[x,y] t)).cell? ((⟨w.heap.size,0,none⟩:Addr).add j)=some u:=by
 intro j u hu;have hadd:(⟨w.heap.size,0,none⟩:Addr).add j=⟨w.heap.size,j,none⟩:=by unfold Addr.add;split<;>simp_all
 rw [hadd,cell_of_row _ w.heap.size j _ t (0,0) (heap_alloc_new w _)];simpa using hu
theorem own_lt {w:World} {base:Nat} {e:TypeId} {size:Nat} {v:Value} {n:Nat} {xs:List Value} (h:w.ownsRow base e size v n xs){g:Nat} (hg:v.ownBlock=some g):g<w.heap.size:=by
 rcases h.2 with⟨rfl,_⟩|⟨g',cap,cur,rfl,hb,hq,rest⟩
 · simp [Value.ownBlock] at hg
 · have:g'=g:=by simpa [Value.ownBlock] using hg
   subst this;exact(Array.getElem?_eq_some_iff.1 hq).1
def Zae (w w':World):Prop:=∀(K:Nat) s i,w.heap[K]? =some (.stringIter s i)→w'.heap[K]? =some (.stringIter s i)
theorem Zae.alloc (w:World)(o:Obj):Zae w (w.alloc o):=fun K s i h=>by
 have:=Below.heap_alloc w o K (Zff h);rw [this,h]
theorem Zae.trans {a b c:World} (h:Zae a b)(k:Zae b c):Zae a c:=fun K s i hk=>k K s i (h K s i hk)
theorem Zae.grown {w w':World} {base:Nat} {e:TypeId} {size:Nat} {v:Value} {n:Nat} {xs:List Value} (h:w.ownsRow base e size v n xs)(hg:w.grownBy w' v.ownBlock):Zae w w':=fun K s i hk=>by
 rw [hg.block K (Zff hk) (ZhU h hk),hk]
theorem Zke {w:World} {a:Addr} {v:Value} (h:w.cell? a=some v):a.block<w.heap.size:=by
 by_cases hlt:a.block<w.heap.size
 · exact hlt
 · rw [World.cell?] at h;simp [Array.getElem?_eq_none (Nat.le_of_not_lt hlt)] at h
theorem Zk5 {w w':World} {row:Option Nat} (hg:w.grownBy w' row){p:Addr} (hp:p.block<w.heap.size)(hr:some p.block≠row):w'.cell? p=w.cell? p:=by
 simp only [World.cell?,hg.block p.block hp hr]
theorem Zn4 (big:Bool)(u:Int)(hu:0≤u∧u<65536)(b c B n:Nat)(v:Value)(xs:List Value)(w:World)(hown:w.ownsRow B 5 1 v n xs)(hc:w.cell? ⟨b,0,none⟩=some (.int .i32 u))
 (hlen:n+2≤140737488355328) (hB:B≤w.heap.size):
 Calls Tryz.prog 287 #[v,.bool big,.slice (some ⟨b,0,none⟩) 1 c] w fun e w'=>∃v',e= .returned v'∧w'.ownsRow B 5 1 v' (n+2) (xs++(Zcb big u).map (Value.int .u8))∧Below B w w'∧Zae w w':=by
 obtain⟨i0,hi,iz0,iz1,iz2⟩:=info_parts ZfX;have hu1:=hu.1;have hu2:=hu.2;go_enter Tryz.func287,Tryz.ntmps287
 go_wp2_with fail
 refine wp_loop_rounds 2 ?_;rw [rounds_succ];cases big
 · go_wp2_with (at_builtin;refine wpList_append_own _ rfl _ _ 150 rfl B 5 i0 (.int .u8 0) 1 1 Tryz.underlying150 hi iz0 iz1 iz2 rfl (by decide) v n _ rfl (hown.alloc _) ⟨w.heap.size,0,none⟩ 2 2 [_,_] rfl rfl (Zcu _ _ _ _) (by intro u hu;simp at hu;rcases hu with rfl|rfl<;>rfl) (by unfold maxLen;omega) (by omega) (by simp;omega) ?_;intro v' w5 hown5 hg5 _)
   rw [rounds_succ];go_wp2_with fail
   go_ret
   have hb5:=Zaa (((Below.refl B w)).alloc hB (.cells #[.int .u8 (u % 256),.int .u8 (u / 256)] 5)) (hown.alloc _) hg5 (by simp;omega) (Nat.le_refl _);exact⟨v',rfl,hown5,hb5,(Zae.alloc _ _).trans (Zae.grown (hown.alloc _) hg5)⟩
 · go_wp2_with (at_builtin;refine wpList_append_own _ rfl _ _ 150 rfl B 5 i0 (.int .u8 0) 1 1 Tryz.underlying150 hi iz0 iz1 iz2 rfl (by decide) v n _ rfl (hown.alloc _) ⟨w.heap.size,0,none⟩ 2 2 [_,_] rfl rfl (Zcu _ _ _ _) (by intro u hu;simp at hu;rcases hu with rfl|rfl<;>rfl) (by unfold maxLen;omega) (by omega) (by simp;omega) ?_;intro v' w5 hown5 hg5 _)
   rw [rounds_succ];go_wp2_with fail
   go_ret
   have hb5:=Zaa (((Below.refl B w)).alloc hB (.cells #[.int .u8 (u / 256),.int .u8 (u % 256)] 5)) (hown.alloc _) hg5 (by simp;omega) (Nat.le_refl _);exact⟨v',rfl,hown5,hb5,(Zae.alloc _ _).trans (Zae.grown (hown.alloc _) hg5)⟩
theorem Zn5 (big:Bool)(u t:Int)(hu:0≤u∧u<65536)(ht:0≤t∧t<65536)(b c B n:Nat)(v:Value)(xs:List Value)(w:World)(hown:w.ownsRow B 5 1 v n xs)
 (hc:w.cell? ⟨b,0,none⟩=some (.int .i32 u)) (hd:w.cell? ⟨b,1,none⟩=some (.int .i32 t)) (hne:v.ownBlock≠some b)
 (hlen:n+4≤140737488355328) (hB:B≤w.heap.size):
 Calls Tryz.prog 287 #[v,.bool big,.slice (some ⟨b,0,none⟩) 2 c] w fun e w'=>∃v',e= .returned v'∧w'.ownsRow B 5 1 v' (n+2+2) (xs++(Zcb big u).map (Value.int .u8)++(Zcb big t).map (Value.int .u8))∧Below B w w'∧Zae w w':=by
 obtain⟨i0,hi,iz0,iz1,iz2⟩:=info_parts ZfX;have hu1:=hu.1;have hu2:=hu.2;have ht1:=ht.1;have ht2:=ht.2;have hlt:=Zke hd;have hne1:some b≠v.ownBlock:=fun e=>hne e.symm;go_enter Tryz.func287,Tryz.ntmps287
 go_wp2_with fail
 refine wp_loop_rounds 3 ?_;rw [rounds_succ];cases big
 · go_wp2_with (at_builtin;refine wpList_append_own _ rfl _ _ 150 rfl B 5 i0 (.int .u8 0) 1 1 Tryz.underlying150 hi iz0 iz1 iz2 rfl (by decide) v n _ rfl (hown.alloc _) ⟨w.heap.size,0,none⟩ 2 2 [_,_] rfl rfl (Zcu _ _ _ _) (by intro u hu;simp at hu;rcases hu with rfl|rfl<;>rfl) (by unfold maxLen;omega) (by omega) (by simp;omega) ?_;intro v' w5 hown5 hg5 _)
   have hb5:=Zaa (((Below.refl B w)).alloc hB (.cells #[.int .u8 (u % 256),.int .u8 (u / 256)] 5)) (hown.alloc _) hg5 (by simp;omega) (Nat.le_refl _);have hk5:=(Zae.alloc _ _).trans (Zae.grown (hown.alloc (.cells #[.int .u8 (u % 256),.int .u8 (u / 256)] 5)) hg5);have hd5:w5.cell? ⟨b,1,none⟩=some (.int .i32 t):=by
    rw [Zk5 hg5 (by simp;omega) hne1,World.cell?_alloc_lt w _ _ hlt,hd]
   have hs5:=hb5.size;rw [rounds_succ];go_wp2_with (at_builtin;refine wpList_append_own _ rfl _ _ 150 rfl B 5 i0 (.int .u8 0) 1 1 Tryz.underlying150 hi iz0 iz1 iz2 rfl (by decide) v' (n+2) _ rfl (hown5.alloc _) ⟨w5.heap.size,0,none⟩ 2 2 [_,_] rfl rfl (Zcu _ _ _ _) (by intro u hu;simp at hu;rcases hu with rfl|rfl<;>rfl) (by unfold maxLen;omega) (by omega) (by simp;omega) ?_;intro v'' w6 hown6 hg6 _)
   have hb6:=Zaa (hb5.alloc (by omega) (.cells #[.int .u8 (t % 256),.int .u8 (t / 256)] 5)) (hown5.alloc _) hg6 (by simp;omega) (Nat.le_refl _);have hk6:=hk5.trans ((Zae.alloc _ _).trans (Zae.grown (hown5.alloc (.cells #[.int .u8 (t % 256),.int .u8 (t / 256)] 5)) hg6));rw [rounds_succ];go_wp2_with fail
   go_ret
   exact⟨v'',rfl,hown6,hb6,hk6⟩
 · go_wp2_with (at_builtin;refine wpList_append_own _ rfl _ _ 150 rfl B 5 i0 (.int .u8 0) 1 1 Tryz.underlying150 hi iz0 iz1 iz2 rfl (by decide) v n _ rfl (hown.alloc _) ⟨w.heap.size,0,none⟩ 2 2 [_,_] rfl rfl (Zcu _ _ _ _) (by intro u hu;simp at hu;rcases hu with rfl|rfl<;>rfl) (by unfold maxLen;omega) (by omega) (by simp;omega) ?_;intro v' w5 hown5 hg5 _)
   have hb5:=Zaa (((Below.refl B w)).alloc hB (.cells #[.int .u8 (u / 256),.int .u8 (u % 256)] 5)) (hown.alloc _) hg5 (by simp;omega) (Nat.le_refl _);have hk5:=(Zae.alloc _ _).trans (Zae.grown (hown.alloc (.cells #[.int .u8 (u / 256),.int .u8 (u % 256)] 5)) hg5);have hd5:w5.cell? ⟨b,1,none⟩=some (.int .i32 t):=by
    rw [Zk5 hg5 (by simp;omega) hne1,World.cell?_alloc_lt w _ _ hlt,hd]
   have hs5:=hb5.size;rw [rounds_succ];go_wp2_with (at_builtin;refine wpList_append_own _ rfl _ _ 150 rfl B 5 i0 (.int .u8 0) 1 1 Tryz.underlying150 hi iz0 iz1 iz2 rfl (by decide) v' (n+2) _ rfl (hown5.alloc _) ⟨w5.heap.size,0,none⟩ 2 2 [_,_] rfl rfl (Zcu _ _ _ _) (by intro u hu;simp at hu;rcases hu with rfl|rfl<;>rfl) (by unfold maxLen;omega) (by omega) (by simp;omega) ?_;intro v'' w6 hown6 hg6 _)
   have hb6:=Zaa (hb5.alloc (by omega) (.cells #[.int .u8 (t / 256),.int .u8 (t % 256)] 5)) (hown5.alloc _) hg6 (by simp;omega) (Nat.le_refl _);have hk6:=hk5.trans ((Zae.alloc _ _).trans (Zae.grown (hown5.alloc (.cells #[.int .u8 (t / 256),.int .u8 (t % 256)] 5)) hg6));rw [rounds_succ];go_wp2_with fail
   go_ret
   exact⟨v'',rfl,hown6,hb6,hk6⟩
def Zpf (big:Bool)(ps:List Int)(w0:World)(O:Obj)(v i:Value)(wr:World):Prop:=
 ∃k j:Nat,Za7 big ps k j∧i= .int .i64 j∧wr.ownsRow (w0.heap.size+1) 5 1 v (ZF (ps.take k)).length ((ZF (ps.take k)).map (Value.int .u8))∧Below (w0.heap.size+1) (w0.alloc O) wr
theorem ZdI.sgn {big:Bool} {s:ByteArray} {ps:List Int} {k i n:Nat} {p:Int} (h:ZdI big s ps k i p n)(hi:i≤s.size)(hs:s.size≤140737488355328)(w:World):
 Calls Tryz.prog 169 #[.string s,.int .i64 i,.bool big] w fun e w'=>e= .returned (.tuple #[.int .i32 p,.int .i64 n])∧Below w.heap.size w w':=by
 have h2:=ZjA s i hi hs big w;rw [h.sign] at h2;exact h2
theorem ZoQ {big:Bool} {s:ByteArray} {i:Nat} (hd:(Zu big (s.data.toList.drop i)).2=0)(hi:i≤s.size)(hs:s.size≤140737488355328)(w:World):
 Calls Tryz.prog 169 #[.string s,.int .i64 i,.bool big] w fun e w'=>(∃x,e= .returned (.tuple #[.int .i32 x,.int .i64 0]))∧Below w.heap.size w w':=by
 have h2:=ZjA s i hi hs big w;rw [hd] at h2;exact h2.mono fun e w' ⟨he,hb⟩=>⟨⟨_,he⟩,hb⟩
theorem ZjL (big:Bool)(s:ByteArray)(ps:List Int)(r:List UInt8)(hp:ZdH big s ps r)(hr:r=[]∨(Zu big r).2=0)(hs:s.size≤35184372088000)(w:World):
 Calls Tryz.prog 91 #[.string s,.bool big] w fun e w'=>
  ((r=[]∧e= .returned (.tuple #[.string ⟨(Zc ps).toArray⟩,.agg #[.int .i64 0,.int .i64 0]]))∨(r≠[]∧e= .returned (.tuple #[.string ⟨#[]⟩,.agg #[.int .i64 2,.int .i64 (Zr big ps).length]])))∧Below w.heap.size w w':=by
 go_enter Tryz.func91,Tryz.ntmps91
 go_wp2_with fail
 go_loopw [6,7] (fun v i wr=>Zpf big ps w (.cells #[.int .i64 0,.int .i64 0] 62) v i wr) (fun _ i _=>s.size - (intOf i).toNat)
 case atStart=>exact⟨0,0,Za7.zero _ _,rfl,World.ownsRow_nil _ _ _ _,Below.refl _ _⟩
 case round=>
  obtain⟨k,i,hrun,rfl,hown,hb⟩:=hrel;have hle:=hrun.le hp;have hsz:=hb.size;have hsz':w.heap.size+1≤wr.heap.size:=by simpa using hsz
  have h4k:=(ZcX (ps.take k)).2;rw [List.length_take] at h4k;have hzl:=ZgJ (ps.take k);by_cases hk:k<ps.length
  · obtain⟨p,n,hst,hrun',hn1,hn4,hin,hp0,hp1⟩:=hrun.step hp hk;have hcap:(ZF (ps.take k)).length+4≤140737488355328:=by omega
    have hnext:Hid ((ZF (ps.take (k+1))).map (Value.int .u8)=(ZF (ps.take k)).map (Value.int .u8)++Lib.runeCells p):=by
     rw [hst.snoc hk,ZgK,List.map_append];rfl
    have hnext2:Hid ((ZF (ps.take (k+1))).length=(ZF (ps.take k)).length+(Lib.runeCells p).length):=by
     have:=congrArg List.length hnext.out;simp only [List.length_map,List.length_append] at this;exact this
    clear h4k hzl;go_wp2_with (first|(go_at_call 169;refine(hst.sgn (by omega) (by omega) _).mono ?_;rintro e w1 ⟨rfl,hb1⟩;have hown1:=ZE hown hb1;have hB1:=hb.trans (hb1.mono hsz');have hsz1:=hB1.size)|(go_at_call 170;refine(Tryz.utf8_AppendRune_plain _ _ _ _ p (by omega) (by omega) _ hown1 hcap (by simp at hsz1;omega)).mono ?_;rintro e w2 ⟨v',rfl,hown2,o,hg2⟩))
    have hb2:=Zaa (hB1.alloc (by simp at hsz1;omega) o) (hown1.alloc o) hg2 (by simp at hsz1⊢;omega) (Nat.le_refl _);rw [←hnext.out,←hnext2.out] at hown2;go_roundw
    case rel=>exact⟨k+1,i+n,hrun',by go_num,hown2,hb2⟩
    case measure=>simp [intOf];omega
  · have hk2:k=ps.length:=by omega
    subst hk2;obtain⟨hi2,hdr,hir⟩:=hrun.end_ hp;rw [List.take_length] at hown;by_cases hr0:r=[]
    · have hge:¬i<s.size:=by rw [hr0] at hir;simp at hir;omega
      have hconv:=ZdO (P:=Tryz.prog) 150 9 5 Tryz.underlying150 Tryz.underlying5 Tryz.underlying9 wr hown;rw [ZgG] at hconv;obtain⟨hc0,hc1,hf0,hf1,hlt1⟩:=Zax hb;clear hdr hir hi2;go_wp2_with fail
      refine bodyPost_ret (v:= .tuple #[.string ⟨(Zc ps).toArray⟩,.agg #[.int .i64 0,.int .i64 0]]) (by simp [results,Tryz.results91,go_sem,hc0,hc1]) rfl ⟨.inl ⟨hr0,rfl⟩,?_⟩;exact((((Below.refl _ w).alloc (Nat.le_refl _) _).trans (hb.mono (by omega))).setCell (Nat.le_refl _) _).setCell (Nat.le_refl _) _
    · have hlt:i<s.size:=by have:=List.length_pos_iff.2 hr0;omega
      have he:(Zu big (s.data.toList.drop i)).2=0:=by rw [hdr];exact hr.resolve_left hr0
      have Hi:=Lib.hid hi2;clear hdr hir hi2;go_wp2_with (go_at_call 169;refine(ZoQ he (by omega) (by omega) _).mono ?_;rintro e w1 ⟨⟨x,rfl⟩,hb1⟩;have hB1:=hb.trans (hb1.mono hsz');obtain⟨hc0,hc1,hf0,hf1,hlt1⟩:=Zax hB1)
      refine bodyPost_ret (v:= .tuple #[.string ⟨#[]⟩,.agg #[.int .i64 2,.int .i64 i]]) (by simp [results,Tryz.results91,go_sem,hc0,hc1]) rfl ⟨.inr ⟨hr0,by rw [←Hi.out]⟩,?_⟩;exact((((Below.refl _ w).alloc (Nat.le_refl _) _).trans (hB1.mono (by omega))).setCell (Nat.le_refl _) _).setCell (Nat.le_refl _) _
theorem Zph (big:Bool)(s:ByteArray)(ps:List Int)(hp:Zee big s ps)(hs:s.size≤35184372088000)(w:World):
 Calls Tryz.prog 91 #[.string s,.bool big] w fun e w'=>e= .returned (.tuple #[.string ⟨(Zc ps).toArray⟩,.agg #[.int .i64 0,.int .i64 0]])∧Below w.heap.size w w':=by
 refine(ZjL big s ps [] hp (.inl rfl) hs w).mono fun e w' ⟨h,hb⟩=> ?_;rcases h with⟨_,h⟩|⟨h,_⟩
 · exact⟨h,hb⟩
 · exact absurd rfl h
theorem Zpg (big:Bool)(s:ByteArray)(n:Nat)(hg:Ze3 big s n)(hs:s.size≤35184372088000)(w:World):
 Calls Tryz.prog 91 #[.string s,.bool big] w fun e w'=>e= .returned (.tuple #[.string ⟨#[]⟩,.agg #[.int .i64 2,.int .i64 n]])∧Below w.heap.size w w':=by
 obtain⟨ps,r,hp,rfl,hr,he⟩:=hg;refine(ZjL big s ps r hp (.inr he) hs w).mono fun _ _ ⟨h,hb⟩=> ?_;rcases h with⟨h,_⟩|⟨_,h⟩
 · exact absurd h hr
 · exact⟨h,hb⟩
theorem Zpp {x:Int} (h0:0≤x)(h1:x<1048576):bits .and .i32 x 1023=x % 1024:=
 bits_mask .i32 31 (by decide) wraps_i32 10 (by decide) x h0 (by omega)
theorem Zun (big:Bool)(ps:List Int):(ZaU big ps).length≤4*ps.length:=by
 have h:=(Zfg big ps).2;rw [←Zne,List.length_map] at h;exact h
def EncRel (big:Bool)(ps:List Int)(s:ByteArray)(w0:World)(O:Obj)(K:Nat)(v:Value)(wr:World):Prop:=
 ∃k i:Nat,Run ps k i∧wr.heap[K]? =some (.stringIter s i)∧wr.ownsRow (w0.heap.size+1) 5 1 v (ZaU big (ps.take k)).length ((ZaU big (ps.take k)).map (Value.int .u8))∧Below (w0.heap.size+1) (w0.alloc O) wr
theorem Zpi (big:Bool)(s:ByteArray)(ps:List Int)(hg:Good s ps)(hs:s.size≤35184372088000)(w:World)(hT:Zk w):
 Calls Tryz.prog 223 #[.string s,.bool big] w fun e w'=>e= .returned (.tuple #[.string ⟨(Zr big ps).toArray⟩,.agg #[.int .i64 0,.int .i64 0]])∧Below w.heap.size w w':=by
 have hlen:=hg.len;have hp:=hg.pre;go_enter Tryz.func223,Tryz.ntmps223
 go_wp2_with (go_at_call 131;refine(ZgU s ps hg (by omega) _ (by first|exact hT|exact ZI hT _)).mono ?_;rintro e w1 ⟨rfl,hb1⟩;have hz1:=Z9 hb1;have HB1:=hb1.mono (B':=w.heap.size+1) (by simp);obtain⟨hc0,hc1,hf0,hf1,hlt1⟩:=Zax HB1)
 refine(Zco _ _ _).mono ?_;rintro e w2 ⟨rfl,hb2⟩;have hz2:=Z9 hb2;have HB2:=(HB1.alloc (by omega) _).trans (hb2.mono (by simp;omega));have hit:=World.iter_heap w2 s 0;have hit2:(w2.alloc (.stringIter s 0)).heap.size=w2.heap.size+1:=by simp
 have hBi:=HB2.alloc (o:= .stringIter s 0) (by omega);clear hb1 hc0 hc1 hf0 hf1 hlt1 hb2 HB1;go_wp2_with fail
 go_loopw [7] (fun v wr=>EncRel big ps s w (.cells #[.int .i64 0,.int .i64 0] 62) w2.heap.size v wr) (fun _ wr=>s.size+1 - wr.iterPos w2.heap.size)
 case atStart=>exact⟨0,0,Run.zero _,hit,World.ownsRow_nil _ _ _ _,hBi⟩
 case round=>
  obtain⟨k,i,hrun,hK,hownk,hbk⟩:=hrel;have hle:=hrun.le hp;have hKlt:=Zff hK;have h4k:=Zun big (ps.take k);rw [List.length_take] at h4k;by_cases hk:k<ps.length
  · obtain⟨p,n,hst,hrun',hn1,hn4,hin,hp0,hp1,_⟩:=hrun.step hp hk;have hstep:=fun ty=>Zgo (P:=Tryz.prog) hst (by omega) wr w2.heap.size hK ty;have hown1:=Zib hownk hK (i+n);have hK1:=Lib.iterAt_heap wr w2.heap.size s i (i+n) hK;have hb1:=Lib.below_iterAt hbk (k:=w2.heap.size) (by omega) s (i+n);have hsz1:(wr.iterAt w2.heap.size s (i+n)).heap.size=wr.heap.size:=Lib.iterAt_size _ _ _ _;have hpos:=ZcV hK;have hsc:=hst.2.2.2;have hnext:Hid ((ZaU big (ps.take (k+1))).map (Value.int .u8)=(ZaU big (ps.take k)).map (Value.int .u8)++(Zdy big p).map (Value.int .u8)):=by
     rw [hst.snoc hk,Znf,List.map_append];rfl
    have hnextl:Hid ((ZaU big (ps.take (k+1))).length=(ZaU big (ps.take k)).length+(Zdy big p).length):=by
     rw [hst.snoc hk,Znf,List.length_append];rfl
    have hcap:(ZaU big (ps.take k)).length+4≤140737488355328:=by omega
    rw [ZaN] at hsc;clear h4k;generalize hW:wr.iterAt w2.heap.size s (i+n)=W at*;have hWB:w.heap.size+1≤W.heap.size:=by omega
    by_cases hlow:p<65536
    · have hj:=Zn4 big p ⟨hp0,hlow⟩ W.heap.size 1 (w.heap.size+1) _ _ _ (W.alloc (.cells #[.int .i32 p] 21)) (hown1.alloc _) (cell_one_new W (.int .i32 p) 21 0 _ rfl) (by omega) (by simp;omega);rw [hsz1] at hj;have hez:Hid (Zdy big p=Zcb big p):=if_pos hlow;have hbW:=hb1.alloc (o:= .cells #[.int .i32 p] 21) hWB;have hKW:=Zae.alloc W (.cells #[.int .i32 p] 21) _ _ _ hK1;go_wp2_with (go_at_call 287;refine hj.mono ?_;rintro e w5 ⟨v',rfl,hown5,hb5,hk5⟩)
      have hK5:=hk5 _ _ _ hKW;have hb6:=hbW.trans hb5;rw [←hez.out,←hnext.out] at hown5;have hl2:(ZaU big (ps.take k)).length+2=(ZaU big (ps.take (k+1))).length:=by
       rw [hnextl.out,hez.out];unfold Zcb;split<;>rfl
      rw [hl2] at hown5;refine⟨⟨k+1,i+n,hrun',hK5,hown5,hb6⟩,?_⟩;rw [hpos,ZcV hK5];omega
    · have hr0:0≤p - 65536:=by omega
      have hr1:p - 65536<1048576:=by omega
      have hand:=Zpp hr0 hr1;have hj:=Zn5 big (55296+(p - 65536) / 1024) (56320+(p - 65536) % 1024) (by omega) (by omega) W.heap.size 2 (w.heap.size+1) _ _ _ (W.alloc (.cells #[.int .i32 (55296+(p - 65536) / 1024),.int .i32 (56320+(p - 65536) % 1024)] 21)) (hown1.alloc _) (Zcu W _ _ 21 0 _ rfl) (Zcu W _ _ 21 1 _ rfl) (fun h=>by have:=own_lt hown1 h;omega) (by omega) (by simp;omega);rw [hsz1] at hj;have hez:Hid (Zdy big p=Zcb big (55296+(p - 65536) / 1024)++Zcb big (56320+(p - 65536) % 1024)):=if_neg hlow;have hbW:=hb1.alloc (o:= .cells #[.int .i32 (55296+(p - 65536) / 1024),.int .i32 (56320+(p - 65536) % 1024)] 21) hWB;have hKW:=Zae.alloc W (.cells #[.int .i32 (55296+(p - 65536) / 1024),.int .i32 (56320+(p - 65536) % 1024)] 21) _ _ _ hK1;go_wp2_with (go_at_call 287;refine hj.mono ?_;rintro e w5 ⟨v',rfl,hown5,hb5,hk5⟩)
      have hK5:=hk5 _ _ _ hKW;have hb6:=hbW.trans hb5;rw [List.append_assoc,←List.map_append,←hez.out,←hnext.out] at hown5;have hl2:(ZaU big (ps.take k)).length+2+2=(ZaU big (ps.take (k+1))).length:=by
       rw [hnextl.out,hez.out];unfold Zcb;split<;>rfl
      rw [hl2] at hown5;refine⟨⟨k+1,i+n,hrun',hK5,hown5,hb6⟩,?_⟩;rw [hpos,ZcV hK5];omega
  · have hk2:k=ps.length:=by omega
    subst hk2;obtain⟨hi,_,hie⟩:=hrun.end_ hp;have hend:=fun ty=>Lib.run_next_end_at (P:=Tryz.prog) wr w2.heap.size s i ty hK (by simp at hie;omega);obtain⟨hc0,hc1,hf0,hf1,hlt1⟩:=Zax hbk;rw [List.take_length] at hownk;have hconv:=ZdO (P:=Tryz.prog) 150 9 5 Tryz.underlying150 Tryz.underlying5 Tryz.underlying9 wr hownk;rw [Ztt] at hconv;clear h4k;go_wp2_with fail
    refine bodyPost_ret (v:= .tuple #[.string ⟨(Zr big ps).toArray⟩,.agg #[.int .i64 0,.int .i64 0]]) (by simp [results,Tryz.results223,go_sem,hc0,hc1]) rfl ⟨rfl,?_⟩;exact(((((Below.refl _ w).alloc (Nat.le_refl _) _).trans (hbk.mono (by omega))).setCell (Nat.le_refl _) _).setCell (Nat.le_refl _) _)
def Zak (l:List UInt8):Bool:=l.take 2==[254,255]
def Zbs (l:List UInt8):Bool:=l.take 2==[254,255]||l.take 2==[255,254]
theorem ZmK (s:ByteArray)(h:¬1<s.size):Zak s.data.toList=false∧Zbs s.data.toList=false:=by
 have hl:s.data.toList.length=s.size:=by simp
 generalize s.data.toList=l at*
 match l,hl with
 |[],_=>decide
 |[x],_=>simp [Zak,Zbs]
 |_::_::_,h=>simp at h;omega
theorem ZqD (s:ByteArray):(s.extract 0 2).toList=s.data.toList.take 2:=by
 rw [ByteArray.toList_eq];simp [ByteArray.data_extract,Array.toList_extract,List.extract]
theorem ZeW (s:ByteArray)(hs:s.size≤140737488355328)(w:World):
 Calls Tryz.prog 258 #[.string s] w fun e w'=>e= .returned (.tuple #[.bool (Zak s.data.toList),.bool (Zbs s.data.toList)])∧Below w.heap.size w w':=by
 by_cases h2:1<s.size
 · have hx:=Lib.hid (ZqD s);go_enter Tryz.func258,Tryz.ntmps258
   go_wp2_with fail
   all_goals go_ret2
   all_goals refine⟨?_,Below.refl _ _⟩
   all_goals rename_i hq
   all_goals rw [hx.out] at hq
   · simp [Zak,Zbs,hq]
   · simp only [Zak,Zbs,hx.out];rfl
 · obtain⟨e1,e2⟩:=ZmK s h2;have H1:=Lib.hid e1;have H2:=Lib.hid e2;clear e1 e2;rw [H1.out,H2.out];go_enter Tryz.func258,Tryz.ntmps258
   go_wp2_with fail
   go_ret2
   exact⟨rfl,Below.refl _ _⟩
theorem ZmM (w:World)(o:Obj):(w.alloc o).heap.size=w.heap.size+1:=by simp
theorem Zoc (w:World):
 Calls Tryz.prog 213 #[.string ⟨#[]⟩] w fun e w'=>e= .returned (.tuple #[.string ⟨#[]⟩,.agg #[.int .i64 0,.int .i64 0]])∧Below w.heap.size w w':=by
 go_enter Tryz.func213,Tryz.ntmps213
 go_wp2_with fail
 refine bodyPost_ret (v:= .tuple #[.string ⟨#[]⟩,.agg #[.int .i64 0,.int .i64 0]]) (by simp [results,Tryz.results213,go_sem]) rfl ⟨rfl,?_⟩;exact(Below.refl w.heap.size w).alloc (Nat.le_refl _) _
theorem Zh5 (s:ByteArray)(h0:0<s.size):s.toList.isEmpty=false:=by
 rw [ByteArray.toList_eq];have hl:s.data.toList.length=s.size:=by simp
 generalize s.data.toList=l at*
 match l,hl with
 |[],hl=>simp at hl;omega
 |_::_,_=>rfl
theorem Zoe (s:ByteArray)(h0:0<s.size)(hs:s.size≤35184372088000)(hm:Zbs s.data.toList=false)(w:World):
 Calls Tryz.prog 213 #[.string s] w fun e w'=>e= .returned (.tuple #[.string ⟨#[]⟩,.agg #[.int .i64 2,.int .i64 0]])∧Below w.heap.size w w':=by
 have hk:=fun w=>ZeW s (by omega) w;rw [hm] at hk;have hne:=Zh5 s (by omega);go_enter Tryz.func213,Tryz.ntmps213
 go_wp2_with (go_at_call 258;refine(hk _).mono ?_;rintro e w1 ⟨rfl,hb1⟩;have hz1:=Z9 hb1;obtain⟨hc0,hc1,hf0,hf1,hlt1⟩:=Zax (hb1.mono (by simp)))
 refine bodyPost_ret (v:= .tuple #[.string ⟨#[]⟩,.agg #[.int .i64 2,.int .i64 0]]) (by simp [results,Tryz.results213,go_sem,hc0,hc1]) rfl ⟨rfl,?_⟩;exact((((Below.refl _ w).alloc (Nat.le_refl _) _).trans (hb1.mono (by simp))).setCell (Nat.le_refl _) _).setCell (Nat.le_refl _) _
theorem Zlc {s:ByteArray} (h:Zbs s.data.toList=true):2≤s.size:=by
 by_cases h2:1<s.size
 · exact h2
 · rw [(ZmK s h2).2] at h;cases h
def behind (s:ByteArray):ByteArray:=s.extract 2 s.size
theorem Zhn (s:ByteArray):(behind s).size=s.size - 2:=by simp [behind]
theorem Zod (s:ByteArray)(ps:List Int)(hm:Zbs s.data.toList=true)(hp:Zee (Zak s.data.toList) (behind s) ps)(hs:s.size≤35184372088000)(w:World):
 Calls Tryz.prog 213 #[.string s] w fun e w'=>e= .returned (.tuple #[.string ⟨(Zc ps).toArray⟩,.agg #[.int .i64 0,.int .i64 0]])∧Below w.heap.size w w':=by
 have h2:=Zlc hm;have hk:=fun w=>ZeW s (by omega) w;rw [hm] at hk;have hd:=fun w=>Zph (Zak s.data.toList) (behind s) ps hp (by rw [Zhn s];omega) w;unfold behind at hd;have hne:=Zh5 s (by omega);clear hp;generalize Zak s.data.toList=big at*;go_enter Tryz.func213,Tryz.ntmps213
 go_wp2_with (first|(go_at_call 258;refine(hk _).mono ?_;rintro e w1 ⟨rfl,hb1⟩;have hz1:=Z9 hb1;have HB1:=hb1.mono (B':=w.heap.size+1) (by simp))|(go_at_call 91;refine(hd _).mono ?_;rintro e w2 ⟨rfl,hb2⟩;have HB2:=HB1.trans (hb2.mono hz1);have hz2:=HB2.size))
 refine(Zco _ _ _).mono ?_;rintro e w3 ⟨rfl,hb3⟩;simp only [ZmM] at hz2;have hz3:=Z9 hb3;obtain⟨hd0,hd1,he0,he1,hlt2⟩:=Zax (hb3.mono (by simp));have HB3:=(HB2.alloc (by omega) _).trans (hb3.mono (by simp;omega));obtain⟨hc0,hc1,hf0,hf1,hlt3⟩:=Zax HB3;go_wp2_with fail
 go_region
 go_wp2_with fail
 refine bodyPost_ret (v:= .tuple #[.string ⟨(Zc ps).toArray⟩,.agg #[.int .i64 0,.int .i64 0]]) (by simp [results,Tryz.results213,go_sem,hc0,hc1]) rfl ⟨rfl,?_⟩;exact(((((Below.refl _ w).alloc (Nat.le_refl _) _).trans (HB3.mono (by omega))).setCell (Nat.le_refl _) _).setCell (Nat.le_refl _) _).drew
theorem Zob (s:ByteArray)(n:Nat)(hm:Zbs s.data.toList=true)(hp:Ze3 (Zak s.data.toList) (behind s) n)(hs:s.size≤35184372088000)(w:World):
 Calls Tryz.prog 213 #[.string s] w fun e w'=>e= .returned (.tuple #[.string ⟨#[]⟩,.agg #[.int .i64 2,.int .i64 (n+2)]])∧Below w.heap.size w w':=by
 have h2:=Zlc hm;have hk:=fun w=>ZeW s (by omega) w;rw [hm] at hk;have hn:n≤s.size:=by
  obtain⟨ps,r,h1,h3,_,_⟩:=hp;have:=congrArg List.length h1.1;rw [List.length_append,←h3] at this;have hl:(behind s).data.toList.length=(behind s).size:=by simp
  rw [hl,Zhn] at this;omega
 have hd:=fun w=>Zpg (Zak s.data.toList) (behind s) n hp (by rw [Zhn s];omega) w;unfold behind at hd;have hne:=Zh5 s (by omega);clear hp;generalize Zak s.data.toList=big at*;go_enter Tryz.func213,Tryz.ntmps213
 go_wp2_with (first|(go_at_call 258;refine(hk _).mono ?_;rintro e w1 ⟨rfl,hb1⟩;have hz1:=Z9 hb1;have HB1:=hb1.mono (B':=w.heap.size+1) (by simp))|(go_at_call 91;refine(hd _).mono ?_;rintro e w2 ⟨rfl,hb2⟩;have HB2:=HB1.trans (hb2.mono hz1);have hz2:=HB2.size))
 refine(Zco _ _ _).mono ?_;rintro e w3 ⟨rfl,hb3⟩;simp only [ZmM] at hz2;have hz3:=Z9 hb3;obtain⟨hd0,hd1,he0,he1,hlt2⟩:=Zax (hb3.mono (by simp));have HB3:=(HB2.alloc (by omega) _).trans (hb3.mono (by simp;omega));obtain⟨hc0,hc1,hf0,hf1,hlt3⟩:=Zax HB3;go_wp2_with fail
 go_region
 go_wp2_with fail
 refine bodyPost_ret (v:= .tuple #[.string ⟨#[]⟩,.agg #[.int .i64 2,.int .i64 (n+2)]]) (by simp [results,Tryz.results213,go_sem,hc0,hc1]) rfl ⟨rfl,?_⟩;exact((((((Below.refl _ w).alloc (Nat.le_refl _) _).trans (HB3.mono (by omega))).setCell (p:=⟨w2.heap.size,1,none⟩) (by simp;omega) _).setCell (p:=⟨w.heap.size,0,none⟩) (Nat.le_refl _) _).setCell (p:=⟨w.heap.size,1,none⟩) (Nat.le_refl _) _).drew
theorem Zld (a b:List UInt8):Lib.join [a,b] []=a++b:=by simp [Lib.join]
theorem Zol (a b:ByteArray)(c:Nat)(w:World)(bk:Nat)(h0:w.cell? ⟨bk,0,none⟩=some (.string a))(h1:w.cell? ⟨bk,1,none⟩=some (.string b))(hc:2≤c)(hl:a.size+b.size≤35184372089000):
 Calls Tryz.prog 27 #[.slice (some ⟨bk,0,none⟩) 2 c] w fun e w'=>e= .returned (.string ⟨(a.data.toList++b.data.toList).toArray⟩)∧Below w.heap.size w w':=by
 have hj:Calls Tryz.prog 76 #[.slice (some ⟨bk,0,none⟩) 2 c,.string ⟨#[]⟩] w fun e w'=>e= .returned (.string ⟨(a.data.toList++b.data.toList).toArray⟩)∧Below w.heap.size w w':=by
  have hq:=Tryz.strings_Join bk 0 c [a,b] ⟨#[]⟩ w (by
   intro j x hx
   match j,hx with
   |0,hx=>simp at hx;subst hx;exact h0
   |1,hx=>simp at hx;subst hx;exact h1) (Zke h0) (by simp) hc (by simp [Zld];omega)
  simpa [Zld] using hq
 go_enter Tryz.func27,Tryz.ntmps27
 go_wp2_with (go_at_call 76;refine hj.mono ?_;rintro e w1 ⟨rfl,hb1⟩)
 go_ret
 exact⟨rfl,hb1⟩
theorem Zpj (s:ByteArray)(ps:List Int)(hg:Good s ps)(hs:s.size≤8796093022000)(w:World)(hT:Zk w):
 Calls Tryz.prog 144 #[.string s] w fun e w'=>e= .returned (.tuple #[.string ⟨([255,254]++Zr false ps).toArray⟩,.agg #[.int .i64 0,.int .i64 0]])∧Below w.heap.size w w':=by
 have hlen:=hg.len;have hwl:=(Zfg false ps).2;have hbs:(⟨(Zr false ps).toArray⟩:ByteArray).size=(Zr false ps).length:=rfl;have hbd:(⟨(Zr false ps).toArray⟩:ByteArray).data.toList=Zr false ps:=rfl;have hE:=fun(w:World) (hT:Zk w)=>Zpi false s ps hg (by omega) w hT;generalize hX:(⟨(Zr false ps).toArray⟩:ByteArray)=X at*;go_enter Tryz.func144,Tryz.ntmps144
 go_wp2_with (go_at_call 223;refine(hE _ (ZI hT _)).mono ?_;rintro e w1 ⟨rfl,hb1⟩;have hz1:=Z9 hb1;have HB1:=hb1.mono (B':=w.heap.size+1) (by simp))
 refine(Zco _ _ _).mono ?_;rintro e w3 ⟨rfl,hb3⟩;have hz3:=Z9 hb3;have HB3:=(HB1.alloc (by omega) _).trans (hb3.mono (by simp;omega));have hj:=fun c hc=>Zol ⟨#[255,254]⟩ X c (w3.alloc (.cells #[.string ⟨#[255,254]⟩,.string X] 9)) w3.heap.size (Zcu w3 _ _ 9 0 _ rfl) (Zcu w3 _ _ 9 1 _ rfl) hc (by rw [hbs];simp [ByteArray.size];omega);go_wp2_with (go_at_call 27;refine(hj _ (by decide)).mono ?_;rintro e w4 ⟨rfl,hb4⟩;have hz4:=Z9 hb4;have HB4:=(HB3.alloc (by omega) _).trans (hb4.mono (by simp;omega));obtain⟨hc0,hc1,hf0,hf1,hlt3⟩:=Zax HB4)
 refine bodyPost_ret (v:= .tuple #[.string ⟨([255,254]++Zr false ps).toArray⟩,.agg #[.int .i64 0,.int .i64 0]]) (by simp [results,Tryz.results144,go_sem,hc0,hc1]) rfl ⟨rfl,?_⟩;exact((((Below.refl _ w).alloc (Nat.le_refl _) _).trans (HB4.mono (by omega))).setCell (Nat.le_refl _) _).setCell (Nat.le_refl _) _
def twoB:List (Int×Int×Int)→List Int→Int
 |[],_=> -1
 |t::r,l=>if 1<l.length∧l.getD 0 0=t.2.1∧l.getD 1 0=t.2.2 then t.1 else twoB r l
def ZdN (c:Int):List UInt8:=[(c / 256).toNat.toUInt8,(c % 256).toNat.toUInt8]
def Zf8 (p:Int):Int:=if p<0∨65535<p then -1 else Ze9 SP p
def Zej (l:List Int):List UInt8×Int:=
 if l=[] then([],0) else if 0≤twoB TW l then(ZdN (136*256+twoB TW l),2) else if 0≤Zf8 (l.getD 0 0) then(ZdN (Zf8 (l.getD 0 0)),1) else([],0)
theorem two_bytes:Zej [202,772]=(ZdN (136*256+98),2)∧Zej [202,780]=(ZdN (136*256+100),2)∧Zej [234,772]=(ZdN (136*256+163),2)∧Zej [234,780]=(ZdN (136*256+165),2):=by decide+kernel
theorem back (lead b:Int)(h:Zdv lead b≠[]):Zej (Zdv lead b)=(ZdN (lead*256+b),((Zdv lead b).length:Int)):=by
 by_cases h1:Zbw lead b=0
 · have e:Zdv lead b=twoL lead b:=by unfold Zdv;rw [if_neg (by simp [h1])]
   rw [e] at h⊢;by_cases h136:lead=136
   · subst h136;obtain⟨t1,t2,t3,t4⟩:=two_bytes;simp only [twoL,TW,twoF] at h⊢;by_cases k0:b=98
     · subst k0;exact t1
     by_cases k1:b=100
     · subst k1;exact t2
     by_cases k2:b=163
     · subst k2;exact t3
     by_cases k3:b=165
     · subst k3;exact t4
     simp [k0,k1,k2,k3] at h
   · rw [ZtW h136] at h;exact absurd rfl h
 · have e:Zdv lead b=[Zbw lead b]:=by unfold Zdv;rw [if_pos h1]
   rw [e];have hs:=Zr0 lead b;have hc:0≤Zai b:=by
    have:=(Zkd b).1;by_cases hc:Zai b<0
    · exact absurd (if_pos hc) h1
    · omega
   have hz:Zbw lead b=Zay SP lead (Zai b):=if_neg (by omega);have hf:Zf8 (Zbw lead b)=lead*256+b:=by
    rcases(ZlE lead b hc).2 with h0|h0
    · rw [←hz] at h0;exact absurd h0 h1
    · unfold Zf8;rw [if_neg (by omega),hz];exact h0
   have ht:twoB TW [Zbw lead b]= -1:=by simp [TW,twoB]
   have hpos:0≤lead*256+b:=by
    have:0≤lead:=by
     by_cases hl:0≤lead
     · exact hl
     · have:=(ZlE lead b hc).1;rw [←hz] at this;unfold rOne rowL at this;rw [if_neg (by omega),if_neg (by omega),if_neg (by omega),if_neg (by omega),if_neg (by omega),if_neg (by omega)] at this;exact absurd this h1
    have hb:0≤b:=by unfold Zai at hc;repeat' split at hc
                    all_goals omega
    omega
   unfold Zej;rw [if_neg (by simp),ht,if_neg (by decide)];have e0:[Zbw lead b].getD 0 0=Zbw lead b:=rfl;rw [e0,hf,if_pos hpos];rfl
end Go.Proofs.YtecandjkbbpooaaGreatDoor
