/- Lemmas for TopVersions; conditions: as each says. -/
import Derived.Lib.ValidU
import Derived.Deep.QuietTactic
import Derived.BigQuiet
import Derived.Shelf.SlGeneric
import Derived.Shelf.SlSortCmp.WholeK
import Derived.Shelf.SlicesE.Clone
import Derived.Shelf.SlicesE.Index
import Derived.Ground.SlsfProg
import Derived.Ground.SlgnProg
import Derived.Test.YtlhllehffkoloaaGreatDoorM2
set_option linter.unusedVariables false
set_option linter.unusedSimpArgs false
set_option maxRecDepth 100000
set_option maxHeartbeats 2000000
namespace Go.Proofs.YtlhllehffkoloaaGreatDoor
open Go Go.RowKit
theorem ZiX (l:List UInt8)(i k:Nat):ZB l (i+k)=ZB (l.drop i) k:=by
 unfold ZB;rw [List.length_drop];have:(l.drop i).getD k 0=l.getD (i+k) 0:=by simp [List.getD,List.getElem?_drop]
 rw [this];have e:(l.length≤i+k)↔(l.length - i≤k):=by omega
 simp only [e]
def atL (d:List UInt8):Int×Int:=atZ (d.getD 0 0).toNat (ZB d 1) (ZB d 2) (ZB d 3)
theorem ZbT (b:UInt8)(l:List UInt8)(k:Nat):ZB (b::l) (k+1)=ZB l k:=by
 unfold ZB;rw [List.length_cons,List.getD_cons_succ];have e:(l.length+1≤k+1)↔(l.length≤k):=by omega
 simp only [e]
theorem ZeY (b:UInt8)(l:List UInt8)(h0:128≤b.toNat)(h1:b.toNat≤191):ZB (b::l) 0=(b.toNat:Int) - 128:=by
 unfold ZB;rw [List.length_cons,List.getD_cons_zero,if_neg (by omega),if_neg (by omega)]
theorem ZeX {l:List UInt8} {k:Nat} (h:0≤ZB l k):k<l.length∧128≤(l.getD k 0).toNat∧(l.getD k 0).toNat≤191∧ZB l k=(l.getD k 0).toNat - 128:=by
 revert h
 unfold ZB;split
 · intro h;omega
 · split
   · intro h;omega
   · intro _;omega
theorem Zrk {p:Int} (h:Zi p=true)(t:List UInt8):atL (Lib.encodeRune p++t)=(p,((Lib.encodeRune p).length:Int)):=by
 rcases Zd7 h with⟨h0,h1⟩|⟨h0,h1⟩|h3|⟨h0,h1⟩
 · rw [Zco h0 h1];simp only [atL,List.cons_append,List.nil_append,List.getD_cons_zero,Zao p h0 (by omega),List.length_cons,List.length_nil];unfold atZ;rw [if_pos (by omega)];exact Prod.ext (by simp only;omega) rfl
 · have hl:=congrArg List.length (Zc8 h0 h1);simp only [List.length_cons,List.length_nil] at hl;rw [hl,Zc8 h0 h1];have e0:=Zao (192+p / 64) (by omega) (by omega);have e1:=Zao (128+p % 64) (by omega) (by omega);simp only [atL,List.cons_append,List.nil_append,List.getD_cons_zero];rw [show ZB ((192+p / 64).toNat.toUInt8::(128+p % 64).toNat.toUInt8::t) 1=p % 64 from by
    rw [show(1:Nat)=0+1 from rfl,ZbT,ZeY _ _ (by omega) (by omega)];omega]
   rw [e0];unfold atZ;rw [if_neg (by omega),if_pos (by omega),if_neg (by omega)];have:((((192+p / 64).toNat:Nat):Int) - 192)*64+p % 64=p:=by omega
   rw [this];unfold Zcm;rw [if_pos ⟨h,by rw [hl];rfl⟩];rfl
 · have hl:=congrArg List.length (Zc7 h3);simp only [List.length_cons,List.length_nil] at hl;rw [hl,Zc7 h3];have e0:=Zao (224+p / 4096) (by omega) (by omega);have e1:=Zao (128+p / 64 % 64) (by omega) (by omega);have e2:=Zao (128+p % 64) (by omega) (by omega);simp only [atL,List.cons_append,List.nil_append,List.getD_cons_zero];rw [show ZB ((224+p / 4096).toNat.toUInt8::(128+p / 64 % 64).toNat.toUInt8::(128+p % 64).toNat.toUInt8::t) 1=p / 64 % 64 from by
    rw [show(1:Nat)=0+1 from rfl,ZbT,ZeY _ _ (by omega) (by omega)];omega]
   rw [show ZB ((224+p / 4096).toNat.toUInt8::(128+p / 64 % 64).toNat.toUInt8::(128+p % 64).toNat.toUInt8::t) 2=p % 64 from by
    rw [show(2:Nat)=0+1+1 from rfl,ZbT,ZbT,ZeY _ _ (by omega) (by omega)];omega]
   rw [e0];unfold atZ;rw [if_neg (by omega),if_neg (by omega),if_pos (by omega),if_neg (by omega),if_neg (by omega)];have:((((224+p / 4096).toNat:Nat):Int) - 224)*64+p / 64 % 64=p / 64:=by omega
   rw [this];have:p / 64*64+p % 64=p:=by omega
   rw [this];unfold Zcm;rw [if_pos ⟨h,by rw [hl];rfl⟩];rfl
 · have hl:=congrArg List.length (Zc6 h0 h1);simp only [List.length_cons,List.length_nil] at hl;rw [hl,Zc6 h0 h1];have e0:=Zao (240+p / 262144) (by omega) (by omega);have e1:=Zao (128+p / 4096 % 64) (by omega) (by omega);have e2:=Zao (128+p / 64 % 64) (by omega) (by omega);have e3:=Zao (128+p % 64) (by omega) (by omega);simp only [atL,List.cons_append,List.nil_append,List.getD_cons_zero];rw [show ZB ((240+p / 262144).toNat.toUInt8::(128+p / 4096 % 64).toNat.toUInt8::(128+p / 64 % 64).toNat.toUInt8::(128+p % 64).toNat.toUInt8::t) 1=p / 4096 % 64 from by
    rw [show(1:Nat)=0+1 from rfl,ZbT,ZeY _ _ (by omega) (by omega)];omega]
   rw [show ZB ((240+p / 262144).toNat.toUInt8::(128+p / 4096 % 64).toNat.toUInt8::(128+p / 64 % 64).toNat.toUInt8::(128+p % 64).toNat.toUInt8::t) 2=p / 64 % 64 from by
    rw [show(2:Nat)=0+1+1 from rfl,ZbT,ZbT,ZeY _ _ (by omega) (by omega)];omega]
   rw [show ZB ((240+p / 262144).toNat.toUInt8::(128+p / 4096 % 64).toNat.toUInt8::(128+p / 64 % 64).toNat.toUInt8::(128+p % 64).toNat.toUInt8::t) 3=p % 64 from by
    rw [show(3:Nat)=0+1+1+1 from rfl,ZbT,ZbT,ZbT,ZeY _ _ (by omega) (by omega)];omega]
   rw [e0];unfold atZ;rw [if_neg (by omega),if_neg (by omega),if_neg (by omega),if_pos (by omega),if_neg (by omega),if_neg (by omega),if_neg (by omega)];have:((((240+p / 262144).toNat:Nat):Int) - 240)*64+p / 4096 % 64=p / 4096:=by omega
   rw [this];have:p / 4096*64+p / 64 % 64=p / 64:=by omega
   rw [this];have:p / 64*64+p % 64=p:=by omega
   rw [this];unfold Zcm;rw [if_pos ⟨h,by rw [hl];rfl⟩];rfl
theorem Zia (n p:Int):Zcm n p=(0,0)∨(Zi p=true∧((Lib.encodeRune p).length:Int)=n):=by
 unfold Zcm;split
 · rename_i h;exact .inr h
 · exact .inl rfl
theorem ZtD {p:Int} (h:Zi p=true)(hl:((Lib.encodeRune p).length:Int)=2):128≤p∧p≤2047:=by
 rcases Zd7 h with⟨h0,h1⟩|h2|h3|⟨h0,h1⟩
 · rw [Zco h0 h1] at hl;simp at hl
 · exact h2
 · rw [Zc7 h3] at hl;simp at hl
 · rw [Zc6 h0 h1] at hl;simp at hl
theorem ZtC {p:Int} (h:Zi p=true)(hl:((Lib.encodeRune p).length:Int)=3):(2048≤p∧p<55296)∨(57343<p∧p≤65535):=by
 rcases Zd7 h with⟨h0,h1⟩|⟨h0,h1⟩|h3|⟨h0,h1⟩
 · rw [Zco h0 h1] at hl;simp at hl
 · rw [Zc8 h0 h1] at hl;simp at hl
 · exact h3
 · rw [Zc6 h0 h1] at hl;simp at hl
theorem ZtB {p:Int} (h:Zi p=true)(hl:((Lib.encodeRune p).length:Int)=4):65536≤p∧p≤1114111:=by
 rcases Zd7 h with⟨h0,h1⟩|⟨h0,h1⟩|h3|h4
 · rw [Zco h0 h1] at hl;simp at hl
 · rw [Zc8 h0 h1] at hl;simp at hl
 · rw [Zc7 h3] at hl;simp at hl
 · exact h4
theorem atL_or (d:List UInt8)(hd:d≠[]):atL d=(0,0)∨∃p t,d=Lib.encodeRune p++t∧Zi p=true:=by
 match d,hd with
 |b0::r,_=>
  have k0:=b0.toNat_lt;unfold atL;rw [List.getD_cons_zero,show(1:Nat)=0+1 from rfl,ZbT,show(2:Nat)=1+1 from rfl,ZbT,show(3:Nat)=2+1 from rfl,ZbT];unfold atZ;by_cases c0:((b0.toNat:Nat):Int)<128
  · refine .inr ⟨b0.toNat,r,?_,by rw [Zai];omega⟩;rw [Zco (by omega) (by omega)];simp only [List.cons_append,List.nil_append,List.cons.injEq,and_true];exact(Zae rfl).symm
  rw [if_neg c0];by_cases c1:192≤((b0.toNat:Nat):Int)∧((b0.toNat:Nat):Int)<224
  · rw [if_pos c1];by_cases m1:ZB r 0<0
    · rw [if_pos m1];exact .inl rfl
    rw [if_neg m1];obtain⟨l1,a1,z1,e1⟩:=ZeX (l:=r) (k:=0) (by omega)
    match r,l1 with
    |b1::r,_=>
     have k1:=b1.toNat_lt;rw [List.getD_cons_zero] at a1 z1 e1;rw [e1];rcases Zia 2 (((b0.toNat:Int) - 192)*64+((b1.toNat:Int) - 128)) with h|⟨h,hl⟩
     · exact .inl h
     · have hp:=ZtD h hl;refine .inr ⟨_,r,?_,h⟩;rw [Zc8 hp.1 hp.2];simp only [List.cons_append,List.nil_append,List.cons.injEq,and_true];exact⟨(Zae (by omega)).symm,(Zae (by omega)).symm⟩
  rw [if_neg c1];by_cases c2:224≤((b0.toNat:Nat):Int)∧((b0.toNat:Nat):Int)<240
  · rw [if_pos c2];by_cases m1:ZB r 0<0
    · rw [if_pos m1];exact .inl rfl
    rw [if_neg m1];by_cases m2:ZB r 1<0
    · rw [if_pos m2];exact .inl rfl
    rw [if_neg m2];obtain⟨_,a1,z1,e1⟩:=ZeX (l:=r) (k:=0) (by omega);obtain⟨l2,a2,z2,e2⟩:=ZeX (l:=r) (k:=1) (by omega)
    match r,l2 with
    |b1::b2::r,_=>
     have k1:=b1.toNat_lt;have k2:=b2.toNat_lt;rw [List.getD_cons_zero] at a1 z1 e1;rw [List.getD_cons_succ,List.getD_cons_zero] at a2 z2 e2;rw [e1,e2];rcases Zia 3 ((((b0.toNat:Int) - 224)*64+((b1.toNat:Int) - 128))*64+((b2.toNat:Int) - 128)) with h|⟨h,hl⟩
     · exact .inl h
     · have hp:=ZtC h hl;refine .inr ⟨_,r,?_,h⟩;rw [Zc7 hp];simp only [List.cons_append,List.nil_append,List.cons.injEq,and_true];exact⟨(Zae (by omega)).symm,(Zae (by omega)).symm,(Zae (by omega)).symm⟩
  rw [if_neg c2];by_cases c3:240≤((b0.toNat:Nat):Int)∧((b0.toNat:Nat):Int)<248
  · rw [if_pos c3];by_cases m1:ZB r 0<0
    · rw [if_pos m1];exact .inl rfl
    rw [if_neg m1];by_cases m2:ZB r 1<0
    · rw [if_pos m2];exact .inl rfl
    rw [if_neg m2];by_cases m3:ZB r 2<0
    · rw [if_pos m3];exact .inl rfl
    rw [if_neg m3];obtain⟨_,a1,z1,e1⟩:=ZeX (l:=r) (k:=0) (by omega);obtain⟨_,a2,z2,e2⟩:=ZeX (l:=r) (k:=1) (by omega);obtain⟨l3,a3,z3,e3⟩:=ZeX (l:=r) (k:=2) (by omega)
    match r,l3 with
    |b1::b2::b3::r,_=>
     have k1:=b1.toNat_lt;have k2:=b2.toNat_lt;have k3:=b3.toNat_lt;rw [List.getD_cons_zero] at a1 z1 e1;rw [List.getD_cons_succ,List.getD_cons_zero] at a2 z2 e2;rw [List.getD_cons_succ,List.getD_cons_succ,List.getD_cons_zero] at a3 z3 e3;rw [e1,e2,e3];rcases Zia 4 (((((b0.toNat:Int) - 240)*64+((b1.toNat:Int) - 128))*64+((b2.toNat:Int) - 128))*64+((b3.toNat:Int) - 128)) with h|⟨h,hl⟩
     · exact .inl h
     · have hp:=ZtB h hl;refine .inr ⟨_,r,?_,h⟩;rw [Zc6 hp.1 hp.2];simp only [List.cons_append,List.nil_append,List.cons.injEq,and_true];exact⟨(Zae (by omega)).symm,(Zae (by omega)).symm,(Zae (by omega)).symm,(Zae (by omega)).symm⟩
  rw [if_neg c3];exact .inl rfl
theorem Zrl {d:List UInt8} (hd:d≠[])(h:ZaU (Zz d)):atL d=(0,0):=by
 rcases atL_or d hd with h1|⟨p,t,h1,h2⟩
 · exact h1
 · subst h1;exact absurd h (ZgZ h2 t)
theorem Zky (s:ByteArray)(i:Nat)(hi:i<s.size)(hz:s.size≤140737488355328)(w:World):
 Calls Tryz.prog 14 #[.string s,.int .i64 i] w (ZdM (atL (s.data.toList.drop i)) w):=by
 have h:=ZoI s i hi hz w;rw [ZiX,ZiX,ZiX] at h;have e:(s[i])=(s.data.toList.drop i).getD 0 0:=by
  rw [←Zmm s i hi];simp [List.getD,List.getElem?_drop]
 rw [e] at h;exact h
theorem ZkT (s:ByteArray)(hs:s.size≤140737488355328)(w:World)(hT:Zk w):
 Calls Tryz.prog 108 #[.string s] w fun e w'=>e= .returned (.bool (Lib.validD s.data.toList))∧Below w.heap.size w w':=by
 have hv:=Any.utf8_ValidString Tryz.laysValid s w (by omega) hT;go_enter Tryz.func108,Tryz.ntmps108
 go_wp2_with (go_at_call 176;refine hv.mono ?_;rintro e w1 ⟨rfl,hb1⟩)
 go_ret
 exact⟨rfl,hb1⟩
theorem ZiV (a b:List UInt8):(⟨a.toArray⟩:ByteArray)++⟨b.toArray⟩=⟨(a++b).toArray⟩:=by
 apply ByteArray.ext
 simp
theorem Zqe {s:ByteArray} {ps:List Int} {k i n:Nat} {p:Int} (h:Step s ps k i p n)(hi:i<s.size)(hz:s.size≤140737488355328)(w:World):
 Calls Tryz.prog 14 #[.string s,.int .i64 i] w fun e w'=>e= .returned (.tuple #[.int .i32 p,.int .i64 n])∧Below w.heap.size w w':=by
 obtain⟨⟨t,ht⟩,hn,_,hs⟩:=h;have h2:=Zky s i hi hz w;rw [ht,Zrk hs,←hn] at h2;exact h2
theorem Zqd (s:ByteArray)(i:Nat)(hi:i<s.size)(hd:ZaU (Zz (s.data.toList.drop i)))(hz:s.size≤140737488355328)(w:World):
 Calls Tryz.prog 14 #[.string s,.int .i64 i] w fun e w'=>e= .returned (.tuple #[.int .i32 0,.int .i64 0])∧Below w.heap.size w w':=by
 have h2:=Zky s i hi hz w;have hne:s.data.toList.drop i≠[]:=by
  intro h;have:=congrArg List.length h;simp at this;omega
 rw [Zrl hne hd] at h2;exact h2
def Zqh (ps:List Int)(w0:World)(v i:Value)(wr:World):Prop:=
 ∃k j:Nat,Run ps k j∧i= .int .i64 j∧wr.ownsRow w0.heap.size 21 1 v k ((ps.take k).map (Value.int .i32))∧Below w0.heap.size w0 wr
theorem ZkA (s:ByteArray)(ps:List Int)(r:List UInt8)(hp:Pre s ps r)(hr:r=[]∨ZaU (Zz r))(hs:s.size≤35184372088000)(w:World):
 Calls Tryz.prog 5 #[.string s] w fun e w'=>
  ((r=[]∧∃v,e= .returned (.tuple #[v,.int .i64 (-1)])∧w'.ownsRow w.heap.size 21 1 v ps.length (ps.map (Value.int .i32)))∨(r≠[]∧e= .returned (.tuple #[.slice none 0 0,.int .i64 (Zc ps).length])))∧Below w.heap.size w w':=by
 obtain⟨i0,hi,iz0,iz1,iz2⟩:=info_parts ZnU;go_enter Tryz.func5,Tryz.ntmps5
 go_wp2
 go_loopw [4,5] (fun v i wr=>Zqh ps w v i wr) (fun _ i _=>s.size - (intOf i).toNat)
 case atStart=>exact⟨0,0,Run.zero _,rfl,World.ownsRow_nil _ _ _ _,Below.refl _ _⟩
 case round=>
  obtain⟨k,i,hrun,rfl,hown,hb⟩:=hrel;have hle:=hrun.le hp;have hsz:=hb.size;by_cases hk:k<ps.length
  · obtain⟨p,n,hst,hrun',hn1,hn4,hin,_,_,_⟩:=hrun.step hp hk;have hnext:Hid ((ps.take (k+1)).map (Value.int .i32)=(ps.take k).map (Value.int .i32)++[.int .i32 p]):=by
     rw [hst.snoc hk,List.map_append];rfl
    go_wp2_with (first|(go_at_call 14;refine(Zqe hst (by omega) (by omega) _).mono ?_;rintro e w1 ⟨rfl,hb1⟩;have hown1:=ZG hown hb1;have hB1:=hb.trans (hb1.mono hsz);have hsz1:=hB1.size)|(at_builtin;refine wpList_append_own _ rfl _ _ 23 rfl w.heap.size 21 i0 (.int .i32 0) 1 4 Tryz.underlying23 hi iz0 iz1 iz2 rfl (by decide) u4 k _ rfl (hown1.alloc _) ⟨w1.heap.size,0,none⟩ 1 1 [.int .i32 p] rfl rfl (cell_one_new _ _ _) (by intro u hu;simp at hu;subst hu;rfl) (by unfold maxLen;omega) (by omega) (by simp;omega) ?_;intro v' w5 hown5 hg5 _))
    rw [←hnext.out] at hown5;have hb5:=Z7 (hB1.alloc hsz1 (.cells #[.int .i32 p] 21)) (hown1.alloc _) hg5 (by simp;omega) (Nat.le_refl _);go_roundw
    case rel=>exact⟨k+1,i+n,hrun',by go_num,hown5,hb5⟩
    case measure=>simp [intOf];omega
  · have hk2:k=ps.length:=by omega
    subst hk2;obtain⟨hi2,hdr,hir⟩:=hrun.end_ hp;rw [List.take_length] at hown;by_cases hr0:r=[]
    · have hge:¬i<s.size:=by rw [hr0] at hir;simp at hir;omega
      clear hdr hir hi2;go_wp2_with fail
      go_ret2
      exact⟨.inl ⟨hr0,_,rfl,hown⟩,hb⟩
    · have hlt:i<s.size:=by have:=List.length_pos_iff.2 hr0;omega
      have he:ZaU (Zz (s.data.toList.drop i)):=by rw [hdr];exact hr.resolve_left hr0
      have Hi:=Lib.hid hi2;clear hdr hir hi2;go_wp2_with (go_at_call 14;refine(Zqd s i hlt he (by omega) _).mono ?_;rintro e w1 ⟨rfl,hb1⟩)
      go_ret2
      rw [←Hi.out];exact⟨.inr ⟨hr0,rfl⟩,hb.trans (hb1.mono hsz)⟩
theorem Zkz (s:ByteArray)(ps:List Int)(hg:Good s ps)(hs:s.size≤35184372088000)(w:World):
 Calls Tryz.prog 5 #[.string s] w fun e w'=>∃A c,e= .returned (.tuple #[.slice A ps.length c,.int .i64 (-1)])∧ps.length≤c∧Zar w' w'.heap.size .i32 A ps∧Below w.heap.size w w':=by
 refine(ZkA s ps [] hg.pre (.inl rfl) hs w).mono fun e w' ⟨h,hb⟩=> ?_;rcases h with⟨_,v,he,hown⟩|⟨h,_⟩
 · obtain⟨A,c,hv,hc,_,hn⟩:=Zar.of_own hown;subst hv;exact⟨A,c,he,hc,hn,hb⟩
 · exact absurd rfl h
theorem Zqi (s:ByteArray)(n:Nat)(hg:ZaX s n)(hs:s.size≤35184372088000)(w:World):
 Calls Tryz.prog 5 #[.string s] w fun e w'=>e= .returned (.tuple #[.slice none 0 0,.int .i64 n])∧Below w.heap.size w w':=by
 obtain⟨ps,r,hp,rfl,hr,he⟩:=hg.pre;refine(ZkA s ps r hp (.inr he) hs w).mono fun _ _ ⟨h,hb⟩=> ?_;rcases h with⟨h,_⟩|⟨_,h⟩
 · exact absurd h hr
 · exact⟨h,hb⟩
end Go.Proofs.YtlhllehffkoloaaGreatDoor
namespace Go.Proofs.YtlhllehffkoloaaGreatDoor
open Go
def Zs (big:Bool)(a b:UInt8):Int:=if big then(a.toNat:Int)*256+b.toNat else(b.toNat:Int)*256+a.toNat
def Zt (big:Bool):List UInt8→Int×Nat
 |a::b::r=>
  if Zs big a b<55296∨57344≤Zs big a b then(Zs big a b,2)
  else if 56320≤Zs big a b then(0,0)
  else match r with
   |c::d::_=>if Zs big c d<56320∨57344≤Zs big c d then(0,0) else(65536+(Zs big a b - 55296)*1024+(Zs big c d - 56320),4)
   |_=>(0,0)
 |_=>(0,0)
def two (big:Bool)(u:Int):List UInt8:=if big then [(u / 256).toNat.toUInt8,(u % 256).toNat.toUInt8] else [(u % 256).toNat.toUInt8,(u / 256).toNat.toUInt8]
def Zaw (big:Bool)(p:Int):List UInt8:=if p<65536 then two big p else two big (55296+(p - 65536) / 1024)++two big (56320+(p - 65536) % 1024)
def Zl (big:Bool)(ps:List Int):List UInt8:=ps.flatMap (Zaw big)
theorem Zff (big:Bool):Zl big []=[]:=rfl
theorem Zev (big:Bool)(p:Int)(ps:List Int):Zl big (p::ps)=Zaw big p++Zl big ps:=rfl
theorem ZjW (big:Bool)(a b:List Int):Zl big (a++b)=Zl big a++Zl big b:=by simp [Zl]
theorem Zww (big:Bool)(a:List Int)(p:Int):Zl big (a++[p])=Zl big a++Zaw big p:=by simp [Zl]
theorem Zhp (big:Bool)(a b:UInt8):0≤Zs big a b∧Zs big a b<65536:=by
 have:=a.toNat_lt;have:=b.toNat_lt;unfold Zs;split<;>omega
theorem ZjG (big:Bool){u:Int} (h0:0≤u)(h1:u<65536):∃a b,two big u=[a,b]∧Zs big a b=u:=by
 cases big
 · refine⟨_,_,rfl,?_⟩;simp only [Zs,Bool.false_eq_true,if_false,Zao (u / 256) (by omega) (by omega),Zao (u % 256) (by omega) (by omega)];omega
 · refine⟨_,_,rfl,?_⟩;simp only [Zs,if_true,Zao (u / 256) (by omega) (by omega),Zao (u % 256) (by omega) (by omega)];omega
theorem ZjH (big:Bool)(a b:UInt8):two big (Zs big a b)=[a,b]:=by
 have:=a.toNat_lt;have:=b.toNat_lt;cases big<;>simp only [two,Zs,Bool.false_eq_true,if_false,if_true,List.cons.injEq,and_true]<;>exact⟨Zae (by omega),Zae (by omega)⟩
theorem Zhn (big:Bool)(u:Int):(two big u).length=2:=by unfold two;split<;>rfl
theorem Zhq (big:Bool)(p:Int):(Zaw big p).length=if p<65536 then 2 else 4:=by
 unfold Zaw;split<;>simp [Zhn]
theorem Zf0 (big:Bool)(p:Int):2≤(Zaw big p).length∧(Zaw big p).length≤4:=by
 rw [Zhq];split<;>omega
theorem Zoz (big:Bool)(p:Int):Zaw big p≠[]:=by
 intro h;have:=(Zf0 big p).1;rw [h] at this;simp at this
theorem ZoC (big:Bool){p:Int} (h:Zi p=true)(t:List UInt8):Zt big (Zaw big p++t)=(p,(Zaw big p).length):=by
 rw [Zai] at h;rw [Zhq];unfold Zaw;by_cases hp:p<65536
 · rw [if_pos hp,if_pos hp];obtain⟨a,b,e,hu⟩:=ZjG big (u:=p) (by omega) hp;rw [e];simp only [List.cons_append,List.nil_append,Zt,hu];rw [if_pos (by omega)]
 · rw [if_neg hp,if_neg hp];obtain⟨a,b,e,hu⟩:=ZjG big (u:=55296+(p - 65536) / 1024) (by omega) (by omega);obtain⟨c,d,e2,hv⟩:=ZjG big (u:=56320+(p - 65536) % 1024) (by omega) (by omega);rw [e,e2];simp only [List.cons_append,List.nil_append,Zt,hu,hv];rw [if_neg (by omega),if_neg (by omega),if_neg (by omega)];exact Prod.ext (by simp only;omega) rfl
theorem Zwt (big:Bool){l:List UInt8} (he:(Zt big l).2≠0):∃t,l=Zaw big (Zt big l).1++t∧Zi (Zt big l).1=true∧(Zaw big (Zt big l).1).length=(Zt big l).2:=by
 match l with
 |[]=>exact absurd rfl he
 |[_]=>exact absurd rfl he
 |a::b::r=>
  have hu:=Zhp big a b;by_cases h1:Zs big a b<55296∨57344≤Zs big a b
  · simp only [Zt,if_pos h1];refine⟨r,?_,by rw [Zai];omega,by rw [Zhq,if_pos (by omega)]⟩;rw [Zaw,if_pos (by omega),ZjH];rfl
  · by_cases h2:56320≤Zs big a b
    · simp only [Zt,if_neg h1,if_pos h2] at he;exact absurd rfl he
    · match r with
      |[]=>simp only [Zt,if_neg h1,if_neg h2] at he;exact absurd rfl he
      |[_]=>simp only [Zt,if_neg h1,if_neg h2] at he;exact absurd rfl he
      |c::d::r=>
       have hv:=Zhp big c d;by_cases h3:Zs big c d<56320∨57344≤Zs big c d
       · simp only [Zt,if_neg h1,if_neg h2,if_pos h3] at he;exact absurd rfl he
       · simp only [Zt,if_neg h1,if_neg h2,if_neg h3];refine⟨r,?_,by rw [Zai];omega,by rw [Zhq,if_neg (by omega)]⟩;rw [Zaw,if_neg (by omega)];have e1:55296+(65536+(Zs big a b - 55296)*1024+(Zs big c d - 56320) - 65536) / 1024=Zs big a b:=by omega
         have e2:56320+(65536+(Zs big a b - 55296)*1024+(Zs big c d - 56320) - 65536) % 1024=Zs big c d:=by omega
         rw [e1,e2,ZjH,ZjH];rfl
def ZdW (big:Bool)(s:ByteArray)(ps:List Int)(r:List UInt8):Prop:=s.data.toList=Zl big ps++r∧∀p∈ps,Zi p=true
def ZeD (big:Bool)(s:ByteArray)(ps:List Int):Prop:=ZdW big s ps []
def Zfs (big:Bool)(s:ByteArray)(n:Nat):Prop:=∃ps r,ZdW big s ps r∧n=(Zl big ps).length∧r≠[]∧(Zt big r).2=0
def Za9 (big:Bool)(ps:List Int)(k i:Nat):Prop:=k≤ps.length∧i=(Zl big (ps.take k)).length
theorem Zog (big:Bool):∀n (l:List UInt8),l.length≤n→∃ps r,l=Zl big ps++r∧(∀p∈ps,Zi p=true)∧(r=[]∨(Zt big r).2=0)
 |0,l,h=>⟨[],[],by simpa [Zff] using h,by simp,.inl rfl⟩
 |n+1,l,h=>by
  by_cases he:(Zt big l).2=0
  · exact⟨[],l,by simp [Zff],by simp,.inr he⟩
  obtain⟨t,ht,hs,_⟩:=Zwt big he;have hlt:t.length≤n:=by
   have h1:=congrArg List.length ht;rw [List.length_append] at h1;have:=(Zf0 big (Zt big l).1).1;omega
  obtain⟨ps,r,h1,h2,h3⟩:=Zog big n t hlt;refine⟨(Zt big l).1::ps,r,?_,?_,h3⟩
  · rw [Zev,List.append_assoc,←h1];exact ht
  · intro p hp;rcases List.mem_cons.1 hp with rfl|hp
    · exact hs
    · exact h2 p hp
theorem Zwj (big:Bool)(s:ByteArray):(∃ps,ZeD big s ps)∨∃n,Zfs big s n:=by
 obtain⟨ps,r,h1,h2,h3⟩:=Zog big _ s.data.toList (Nat.le_refl _);by_cases hr:r=[]
 · subst hr;exact .inl ⟨ps,h1,h2⟩
 · exact .inr ⟨_,ps,r,⟨h1,h2⟩,rfl,hr,h3.resolve_left hr⟩
theorem Za9.zero (big:Bool)(ps:List Int):Za9 big ps 0 0:=⟨Nat.zero_le _,rfl⟩
theorem Za9.drop {big:Bool} {s:ByteArray} {ps:List Int} {r:List UInt8} {k i:Nat} (hp:ZdW big s ps r)(h:Za9 big ps k i):s.data.toList.drop i=Zl big (ps.drop k)++r:=by
 have e:Zl big ps=Zl big (ps.take k)++Zl big (ps.drop k):=by rw [←ZjW,List.take_append_drop]
 rw [hp.1,e,List.append_assoc,h.2,List.drop_left]
theorem Za9.next {big:Bool} {ps:List Int} {k i:Nat} (h:Za9 big ps k i)(hk:k<ps.length):Za9 big ps (k+1) (i+(Zaw big (ps.getD k 0)).length):=
 ⟨hk,by rw [Zdi hk,ZjW,List.length_append,←h.2,Zev,Zff,List.append_nil]⟩
theorem Za9.end_ {big:Bool} {s:ByteArray} {ps:List Int} {r:List UInt8} {i:Nat} (hp:ZdW big s ps r)(h:Za9 big ps ps.length i):i=(Zl big ps).length∧s.data.toList.drop i=r∧i+r.length=s.size:=by
 have hd:=h.drop hp;rw [List.drop_length,Zff,List.nil_append] at hd;have h2:=h.2;rw [List.take_length] at h2;refine⟨h2,hd,?_⟩;have hl:=congrArg List.length hp.1;rw [List.length_append] at hl;have hs:s.data.toList.length=s.size:=by simp
 omega
theorem Zeb (big:Bool)(ps:List Int):2*ps.length≤(Zl big ps).length∧(Zl big ps).length≤4*ps.length:=by
 induction ps with
 |nil=>simp [Zff]
 |cons p ps ih=>
  have:=Zf0 big p;rw [Zev,List.length_append,List.length_cons];omega
theorem Za9.le {big:Bool} {s:ByteArray} {ps:List Int} {r:List UInt8} {k i:Nat} (hp:ZdW big s ps r)(h:Za9 big ps k i):2*k≤i∧i≤s.size∧k≤ps.length:=by
 have h1:=(Zeb big (ps.take k)).1;rw [List.length_take,←h.2] at h1;have h0:=h.1;have hl:=congrArg List.length hp.1;have e:Zl big ps=Zl big (ps.take k)++Zl big (ps.drop k):=by rw [←ZjW,List.take_append_drop]
 rw [e,List.length_append,List.length_append,←h.2] at hl;have hs:s.data.toList.length=s.size:=by simp
 omega
def ZdX (big:Bool)(s:ByteArray)(ps:List Int)(k i:Nat)(p:Int)(n:Nat):Prop:=
 (∃t,s.data.toList.drop i=Zaw big p++t)∧n=(Zaw big p).length∧p=ps.getD k 0∧Zi p=true
theorem Za9.step {big:Bool} {s:ByteArray} {ps:List Int} {r:List UInt8} {k i:Nat} (hp:ZdW big s ps r)(h:Za9 big ps k i)(hk:k<ps.length):
 ∃(p:Int) (n:Nat),ZdX big s ps k i p n∧Za9 big ps (k+1) (i+n)∧2≤n∧n≤4∧i+n≤s.size∧0≤p∧p≤1114111:=by
 have hd:=h.drop hp;rw [ZlM hk,Zev,List.append_assoc] at hd;have hl:=congrArg List.length hd;rw [List.length_drop,List.length_append] at hl;have h1:=Zf0 big (ps.getD k 0);have hs:s.data.toList.length=s.size:=by simp
 have hsc:=hp.2 _ (Zd8 hk);have h4:=Zai.1 hsc;exact⟨_,_,⟨⟨_,hd⟩,rfl,rfl,hsc⟩,h.next hk,h1.1,h1.2,by omega,h4.1,h4.2.1⟩
theorem ZdX.snoc {big:Bool} {s:ByteArray} {ps:List Int} {k i n:Nat} {p:Int} (h:ZdX big s ps k i p n)(hk:k<ps.length):ps.take (k+1)=ps.take k++[p]:=by
 rw [Zdi hk,h.2.2.1]
theorem ZdX.sign {big:Bool} {s:ByteArray} {ps:List Int} {k i n:Nat} {p:Int} (h:ZdX big s ps k i p n):Zt big (s.data.toList.drop i)=(p,n):=by
 obtain⟨⟨t,ht⟩,hn,_,hs⟩:=h;rw [ht,ZoC big hs,hn]
theorem Zwk (big:Bool){ps:List Int} (h:∀p∈ps,Zi p=true):ZeD big ⟨(Zl big ps).toArray⟩ ps:=⟨by simp,h⟩
end Go.Proofs.YtlhllehffkoloaaGreatDoor
namespace Go.Proofs.YtlhllehffkoloaaGreatDoor
open Go Go.RowKit
theorem Zim (l:List UInt8):Lib.decodeL l=Zz l:=by
 unfold Lib.decodeL;rw [Zin];rfl
theorem Zov:∀(ps:List Int) (n:Nat),(∀p∈ps,Zi p=true)→Lib.validGoD n (Zc ps)=true
 |_,0,_=>rfl
 |[],n+1,_=>by simp [Lib.validGoD,Zce]
 |p::ps,n+1,h=>by
  have hs:=h p (List.mem_cons_self ..);have hd:Zz (Zc (p::ps))=(p.toNat,(Lib.encodeRune p).length):=by rw [Za4];exact ZeK hs _
  have he:=ZgZ hs (Zc ps);rw [←Za4] at he;unfold Lib.validGoD;rw [Zim,hd] at*;split
  · rfl
  · rw [if_neg]
    · have:(Zc (p::ps)).drop (Lib.encodeRune p).length=Zc ps:=by rw [Za4,List.drop_left]
      simp only;rw [this];exact Zov ps n fun q hq=>h q (List.mem_cons_of_mem _ hq)
    · rintro⟨h1,h2⟩;exact he ⟨h1,by simp only at h2⊢;omega⟩
theorem Zr7 (n b0 b1 b2 b3:Nat):1≤(Lib.decodeN n b0 b1 b2 b3).2:=by
 unfold Lib.decodeN
 repeat' split
 all_goals simp
theorem Zsv {l:List UInt8} (h:ZaU (Zz l)):(Zz l).1=65533∧(Zz l).2=1:=by
 have:=Zr7 l.length (l.getD 0 0).toNat (l.getD 1 0).toNat (l.getD 2 0).toNat (l.getD 3 0).toNat;have h2:=h.2;unfold Zz at h2⊢;exact⟨h.1,by omega⟩
theorem Zou:∀(ps:List Int) (r:List UInt8) (n:Nat),ps.length<n→(∀p∈ps,Zi p=true)→r≠[]→ZaU (Zz r)→Lib.validGoD n (Zc ps++r)=false
 |_,_,0,hn,_,_,_=>by omega
 |[],r,n+1,_,_,hr,he=>by
  unfold Lib.validGoD;rw [Zce,List.nil_append,if_neg hr,Zim,if_pos (Zsv he)]
 |p::ps,r,n+1,hn,h,hr,he=>by
  have hs:=h p (List.mem_cons_self ..);have hd:Zz (Zc (p::ps)++r)=(p.toNat,(Lib.encodeRune p).length):=by rw [Za4,List.append_assoc];exact ZeK hs _
  have he1:=ZgZ hs (Zc ps++r);rw [←List.append_assoc,←Za4] at he1;unfold Lib.validGoD;rw [Zim,hd] at*;rw [if_neg (by intro h0;exact hr (List.append_eq_nil_iff.1 h0).2),if_neg]
  · have:(Zc (p::ps)++r).drop (Lib.encodeRune p).length=Zc ps++r:=by rw [Za4,List.append_assoc,List.drop_left]
    simp only;rw [this];exact Zou ps r n (by simp at hn;omega) (fun q hq=>h q (List.mem_cons_of_mem _ hq)) hr he
  · rintro⟨h1,h2⟩;exact he1 ⟨h1,by simp only at h2⊢;omega⟩
theorem Good.valid {s:ByteArray} {ps:List Int} (h:Good s ps):Lib.validD s.data.toList=true:=by
 unfold Lib.validD;rw [h.1];exact Zov ps _ h.2
theorem ZaX.valid {s:ByteArray} {n:Nat} (h:ZaX s n):Lib.validD s.data.toList=false:=by
 obtain⟨ps,r,h1,h2,_,h4,h5⟩:=h;unfold Lib.validD;rw [h1];refine Zou ps r _ ?_ h2 h4 h5;have:=(Zct ps).1;have:0<r.length:=List.length_pos_iff.2 h4;rw [List.length_append];omega
theorem Zq4 (s:ByteArray)(ps:List Int)(hg:Good s ps)(hs:s.size≤140737488355328)(w:World)(hT:Zk w):
 Calls Tryz.prog 108 #[.string s] w fun e w'=>e= .returned (.bool true)∧Below w.heap.size w w':=by
 have h:=ZkT s hs w hT;rw [hg.valid] at h;exact h
theorem Zq3 (s:ByteArray)(n:Nat)(hg:ZaX s n)(hs:s.size≤140737488355328)(w:World)(hT:Zk w):
 Calls Tryz.prog 108 #[.string s] w fun e w'=>e= .returned (.bool false)∧Below w.heap.size w w':=by
 have h:=ZkT s hs w hT;rw [hg.valid] at h;exact h
theorem Zm1 (w:World)(e:TypeId)(z:Int)(k:IntKind):Zar (w.alloc (.cells #[.int k z] e)) (w.heap.size+1) k (some ⟨w.heap.size,0,none⟩) [z]:=ZeZ w e [z] k
theorem Zgo (p:Int)(hp:Zi p=true)(c:Nat)(w:World):
 Calls Tryz.prog 275 #[.slice (some ⟨w.heap.size,0,none⟩) 1 c] (w.alloc (.cells #[.int .i32 p] 21)) fun e w'=>e= .returned (.tuple #[.string ⟨(Lib.encodeRune p).toArray⟩,.bool true])∧Below (w.alloc (.cells #[.int .i32 p] 21)).heap.size (w.alloc (.cells #[.int .i32 p] 21)) w':=by
 have h:=ZkR (some ⟨w.heap.size,0,none⟩) c [p] _ (Zm1 w 21 p .i32) (by simp) (by simpa using hp) (by simp);have e:Zc [p]=Lib.encodeRune p:=by simp [Zc]
 rw [e] at h;exact h
theorem ZqW (p:Int)(hp:Zi p=false)(c:Nat)(w:World):
 Calls Tryz.prog 275 #[.slice (some ⟨w.heap.size,0,none⟩) 1 c] (w.alloc (.cells #[.int .i32 p] 21)) fun e w'=>e= .returned (.tuple #[.string ⟨#[]⟩,.bool false])∧(w.alloc (.cells #[.int .i32 p] 21))=w':=
 ZqV (some ⟨w.heap.size,0,none⟩) c [p] _ (Zm1 w 21 p .i32) (by simp [hp]) (by simp)
theorem Zrq:ZaX ⟨#[97,195,97]⟩ 1:=
 ⟨[97],[195,97],rfl,by decide,rfl,by decide,by decide⟩
theorem ZoM (w:World)(hT:Zk w):
 Calls Tryz.prog 229 #[] w fun e w'=>e= .returned (.bool true)∧Below w.heap.size w w':=by
 go_enter Tryz.func229,Tryz.ntmps229
 go_wp2_with (first|(go_at_call 275;refine(Zgo 233 (by decide) _ _).mono ?_;rintro e w1 ⟨rfl,hb1⟩;have hB1:=Zd hb1;have hT1:=Zak hT hB1 (Nat.le_refl _);have hz1:=hB1.size)|(go_at_call 285;refine(Zqa _ 1 Zrq (by decide) _ hT1).mono ?_;rintro e w2 ⟨rfl,hb2⟩;have hB2:=hB1.trans (hb2.mono hz1)))
 go_ret
 exact⟨rfl,hB2.alloc hB2.size _⟩
end Go.Proofs.YtlhllehffkoloaaGreatDoor
namespace Go.Proofs.YtlhllehffkoloaaGreatDoor
open Go
def B (l:List UInt8):ByteArray:=⟨l.toArray⟩
theorem Za5 (l:List UInt8):(B l).data.toList=l:=by simp [B]
theorem Zn (l:List UInt8):(B l).size=l.length:=by simp [B,ByteArray.size]
theorem B_of (s:ByteArray):s=B s.data.toList:=by simp [B]
theorem Zf3 (l:List UInt8)(a b:Nat):(B l).extract a b=B ((l.take b).drop a):=by
 rw [B_of ((B l).extract a b)];congr 1
 simp [B,ByteArray.data_extract,List.extract,List.drop_take]
theorem Zfg (l:List UInt8)(a b:Nat):(B l).extract a b=B ((l.drop a).take (b - a)):=by
 rw [Zf3,List.drop_take]
def ZlK (c:UInt8):Bool:=decide (48≤c.toNat)&&decide (c.toNat≤57)
def Zc2 (c:UInt8):Bool:=ZlK c||(decide (65≤c.toNat)&&decide (c.toNat≤90))
end Go.Proofs.YtlhllehffkoloaaGreatDoor
namespace Go.Proofs.YtlhllehffkoloaaGreatDoor
open Go Go.RowKit
structure But (C B:Nat)(w w':World):Prop where
 os:w'.os=w.os
 tape:w'.tape=w.tape
 output:w'.output=w.output
 size:w.heap.size≤w'.heap.size
 block:∀k,k<B→k≠C→w'.heap[k]? =w.heap[k]?
theorem But.of {C B:Nat} {w w':World} (h:Below B w w'):But C B w w':=⟨h.os,h.tape,h.output,h.size,fun k hk _=>h.block k hk⟩
theorem But.refl (C B:Nat)(w:World):But C B w w:= .of (Below.refl B w)
theorem But.trans {C B:Nat} {a b c:World} (h:But C B a b)(k:But C B b c):But C B a c:=
 ⟨k.os.trans h.os,k.tape.trans h.tape,k.output.trans h.output,Nat.le_trans h.size k.size,fun i hi hc=>(k.block i hi hc).trans (h.block i hi hc)⟩
theorem But.mono {C B B':Nat} {w w':World} (h:But C B w w')(hB:B'≤B):But C B' w w':=⟨h.os,h.tape,h.output,h.size,fun k hk=>h.block k (Nat.lt_of_lt_of_le hk hB)⟩
theorem But.alloc {C B:Nat} {a w:World} (h:But C B a w)(hB:B≤w.heap.size)(o:Obj):But C B a (w.alloc o):=h.trans (.of ((Below.refl B w).alloc hB o))
theorem But.setCell {C B:Nat} {a w:World} (h:But C B a w){p:Addr} (hp:B≤p.block∨p.block=C)(u:Value):But C B a (w.setCell p u):=
 h.trans ⟨rfl,rfl,rfl,by simp [World.setCell],fun k hk hc=>Below.heap_setCell _ _ _ _ (by rcases hp with hp|hp<;>omega)⟩
theorem But.below {C B:Nat} {w w':World} (h:But C B w w')(hB:B≤C):Below B w w':=⟨h.os,h.tape,h.output,h.size,fun k hk=>h.block k hk (by omega)⟩
theorem But.cell {C B:Nat} {w w':World} (h:But C B w w'){p:Addr} (hp:p.block<B)(hc:p.block≠C):w'.cell? p=w.cell? p:=World.cell?_of_block (w:=w) (h.block p.block hp hc)
theorem Zh6 {C:Nat} {w w1:World} {o:Obj} (h:But C (w.alloc o).heap.size (w.alloc o) w1):But C w.heap.size w w1:=
 ((But.refl C w.heap.size w).alloc (Nat.le_refl _) o).trans (h.mono (by simp))
theorem ZdE {C:Nat} {w w1:World} {base:Nat} {e:TypeId} {size:Nat} {v:Value} {n:Nat} {xs:List Value} (h:w.ownsRow base e size v n xs)(hb:But C w.heap.size w w1)(hC:C<base):w1.ownsRow base e size v n xs:=
 h.kept (row:=some C) ⟨hb.os,hb.tape,hb.output,hb.size,fun k hk hc=>hb.block k hk (fun e=>hc (by rw [e]))⟩ (.inr fun e=>by
  have:=(h.lt C e).1;omega)
theorem Zrx {C:Nat} {w w':World} (hb:But C w.heap.size w w'):w.grownBy w' (some C):=⟨hb.os,hb.tape,hb.output,hb.size,fun k hk hc=>hb.block k hk (fun e=>hc (by rw [e]))⟩
theorem bx3' {w wr:World} {T:TypeId} {a b c:Value} (hb:Below (w.alloc (.cells #[a,b,c] T)).heap.size (w.alloc (.cells #[a,b,c] T)) wr):
 wr.cell? ⟨w.heap.size,0,none⟩=some a∧wr.cell? ⟨w.heap.size,1,none⟩=some b∧wr.cell? ⟨w.heap.size,2,none⟩=some c∧wr.frozen? ⟨w.heap.size,0,none⟩=false∧wr.frozen? ⟨w.heap.size,1,none⟩=false∧wr.frozen? ⟨w.heap.size,2,none⟩=false∧w.heap.size<wr.heap.size:=by
 have h1:=hb.size;simp only [World.size_alloc] at h1;have hl:w.heap.size<(w.alloc (.cells #[a,b,c] T)).heap.size:=by simp
 have e:=heap_alloc_new w (.cells #[a,b,c] T);refine⟨?_,?_,?_,?_,?_,?_,by omega⟩
 · rw [hb.cell (p:=⟨w.heap.size,0,none⟩) hl,cell_of_row _ w.heap.size 0 _ T (0,0) e];rfl
 · rw [hb.cell (p:=⟨w.heap.size,1,none⟩) hl,cell_of_row _ w.heap.size 1 _ T (0,0) e];rfl
 · rw [hb.cell (p:=⟨w.heap.size,2,none⟩) hl,cell_of_row _ w.heap.size 2 _ T (0,0) e];rfl
 · rw [hb.frozen (p:=⟨w.heap.size,0,none⟩) hl,frozen_of_row _ w.heap.size 0 _ T e]
 · rw [hb.frozen (p:=⟨w.heap.size,1,none⟩) hl,frozen_of_row _ w.heap.size 1 _ T e]
 · rw [hb.frozen (p:=⟨w.heap.size,2,none⟩) hl,frozen_of_row _ w.heap.size 2 _ T e]
end Go.Proofs.YtlhllehffkoloaaGreatDoor
namespace Go.Proofs
open Go.Shelf
def Tryz.laysSort_ren:Go.Shelf.Ren:=⟨fun|6=>344|15=>368|14=>367|28=>391|29=>392|20=>383|21=>384|22=>385|23=>386|24=>387|25=>388|26=>389|27=>390|46=>397|47=>398|48=>399|49=>400|50=>401|57=>402|n=>n,fun|22=>204|24=>310|25=>363|3=>3|39=>106|0=>0|53=>49|55=>48|4=>4|46=>390|45=>389|50=>244|5=>5|9=>9|66=>398|70=>402|76=>404|77=>224|n=>n,fun|n=>n⟩
theorem Tryz.laysSort:Go.Proofs.SlLaysF0.n6 Tryz.prog Tryz.laysSort_ren:={
 mixed:=by kernel_rfl
 f6:=⟨Tryz.f344.name,by decide,Tryz.func344.trans (congrArg some (by kernel_rfl))⟩
 f14:=⟨Tryz.f367.name,by decide,Tryz.func367.trans (congrArg some (by kernel_rfl))⟩
 f15:=Tryz.func368.trans (congrArg some (by kernel_rfl))
 f20:=⟨Tryz.f383.name,by decide,Tryz.func383.trans (congrArg some (by kernel_rfl))⟩
 f21:=⟨Tryz.f384.name,by decide,Tryz.func384.trans (congrArg some (by kernel_rfl))⟩
 f22:=⟨Tryz.f385.name,by decide,Tryz.func385.trans (congrArg some (by kernel_rfl))⟩
 f23:=⟨Tryz.f386.name,by decide,Tryz.func386.trans (congrArg some (by kernel_rfl))⟩
 f24:=⟨Tryz.f387.name,by decide,Tryz.func387.trans (congrArg some (by kernel_rfl))⟩
 f25:=⟨Tryz.f388.name,by decide,Tryz.func388.trans (congrArg some (by kernel_rfl))⟩
 f26:=⟨Tryz.f389.name,by decide,Tryz.func389.trans (congrArg some (by kernel_rfl))⟩
 f27:=⟨Tryz.f390.name,by decide,Tryz.func390.trans (congrArg some (by kernel_rfl))⟩
 f28:=Tryz.func391.trans (congrArg some (by kernel_rfl))
 f29:=Tryz.func392.trans (congrArg some (by kernel_rfl))
 f46:=⟨Tryz.f397.name,by decide,Tryz.func397.trans (congrArg some (by kernel_rfl))⟩
 f47:=Tryz.func398.trans (congrArg some (by kernel_rfl))
 f48:=Tryz.func399.trans (congrArg some (by kernel_rfl))
 f49:=⟨Tryz.f400.name,by decide,Tryz.func400.trans (congrArg some (by kernel_rfl))⟩
 f50:=⟨Tryz.f401.name,by decide,Tryz.func401.trans (congrArg some (by kernel_rfl))⟩
 f57:=⟨Tryz.f402.name,by decide,Tryz.func402.trans (congrArg some (by kernel_rfl))⟩
 t0:=Tryz.underlying0
 a0:=Tryz.isAgg0
 z0:=Tryz.sizeOf0
 v0:=Tryz.zeroValue0
 t3:=Tryz.underlying3
 a3:=Tryz.isAgg3
 z3:=Tryz.sizeOf3
 v3:=Tryz.zeroValue3
 t4:=Tryz.underlying4
 a4:=Tryz.isAgg4
 z4:=Tryz.sizeOf4
 v4:=Tryz.zeroValue4
 t5:=Tryz.underlying5
 a5:=Tryz.isAgg5
 z5:=Tryz.sizeOf5
 v5:=Tryz.zeroValue5
 t9:=Tryz.underlying9
 a9:=Tryz.isAgg9
 z9:=Tryz.sizeOf9
 v9:=Tryz.zeroValue9
 t22:=Tryz.underlying204
 a22:=Tryz.isAgg204
 z22:=Tryz.sizeOf204
 v22:=Tryz.zeroValue204
 t25:=Tryz.underlying363
 a25:=Tryz.isAgg363
 z25:=Tryz.sizeOf363
 v25:=Tryz.zeroValue363
 t39:=Tryz.underlying106
 a39:=Tryz.isAgg106
 z39:=Tryz.sizeOf106
 v39:=Tryz.zeroValue106
 t45:=Tryz.underlying389
 a45:=Tryz.isAgg389
 z45:=Tryz.sizeOf389
 v45:=Tryz.zeroValue389
 t46:=Tryz.underlying390
 a46:=Tryz.isAgg390
 z46:=Tryz.sizeOf390
 v46:=Tryz.zeroValue390
 t50:=Tryz.underlying244
 a50:=Tryz.isAgg244
 z50:=Tryz.sizeOf244
 v50:=Tryz.zeroValue244
 t53:=Tryz.underlying49
 a53:=Tryz.isAgg49
 z53:=Tryz.sizeOf49
 v53:=Tryz.zeroValue49
 t55:=Tryz.underlying48
 a55:=Tryz.isAgg48
 z55:=Tryz.sizeOf48
 v55:=Tryz.zeroValue48
 t66:=Tryz.underlying398
 a66:=Tryz.isAgg398
 z66:=Tryz.sizeOf398
 v66:=Tryz.zeroValue398
 t70:=Tryz.underlying402
 a70:=Tryz.isAgg402
 z70:=Tryz.sizeOf402
 v70:=Tryz.zeroValue402
 t76:=Tryz.underlying404
 a76:=Tryz.isAgg404
 z76:=Tryz.sizeOf404
 v76:=Tryz.zeroValue404
 t77:=Tryz.underlying224
 a77:=Tryz.isAgg224
 z77:=Tryz.sizeOf224
 v77:=Tryz.zeroValue224}
def Tryz.laysIdx_ren:Go.Shelf.Ren:=⟨fun|29=>396|n=>n,fun|22=>23|23=>21|3=>3|0=>0|4=>4|n=>n,fun|n=>n⟩
theorem Tryz.laysIdx:Go.Proofs.SlLaysE.n29 Tryz.prog Tryz.laysIdx_ren:={
 mixed:=by kernel_rfl
 f29:=⟨Tryz.f396.name,by decide,Tryz.func396.trans (congrArg some (by kernel_rfl))⟩
 t0:=Tryz.underlying0
 a0:=Tryz.isAgg0
 z0:=Tryz.sizeOf0
 v0:=Tryz.zeroValue0
 t3:=Tryz.underlying3
 a3:=Tryz.isAgg3
 z3:=Tryz.sizeOf3
 v3:=Tryz.zeroValue3
 t4:=Tryz.underlying4
 a4:=Tryz.isAgg4
 z4:=Tryz.sizeOf4
 v4:=Tryz.zeroValue4
 t22:=Tryz.underlying23
 a22:=Tryz.isAgg23
 z22:=Tryz.sizeOf23
 v22:=Tryz.zeroValue23
 a23:=Tryz.isAgg21
 z23:=Tryz.sizeOf21}
def Tryz.laysClone_ren:Go.Shelf.Ren:=⟨fun|41=>310|n=>n,fun|22=>204|23=>310|4=>4|n=>n,fun|n=>n⟩
theorem Tryz.laysClone:Go.Proofs.SlLaysE0.n41 Tryz.prog Tryz.laysClone_ren:={
 mixed:=by kernel_rfl
 f41:=⟨Tryz.f310.name,by decide,Tryz.func310.trans (congrArg some (by kernel_rfl))⟩
 t4:=Tryz.underlying4
 a4:=Tryz.isAgg4
 z4:=Tryz.sizeOf4
 v4:=Tryz.zeroValue4
 t22:=Tryz.underlying204
 a22:=Tryz.isAgg204
 z22:=Tryz.sizeOf204
 v22:=Tryz.zeroValue204}
end Go.Proofs
namespace Go.Proofs.YtlhllehffkoloaaGreatDoor
open Go Go.RowKit
theorem ZiM:∀xs:List (List UInt8),Lib.join xs []=xs.flatten
 |[]=>by simp [Lib.join]
 |[x]=>by simp [Lib.join]
 |x::y::xs=>by
  have:=ZiM (y::xs);simp [Lib.join] at this⊢;exact this
theorem ZpX (bk c:Nat)(xs:List (List UInt8))(w:World)(hcells:∀(j:Nat) x,xs[j]? =some x→w.cell? ⟨bk,j,none⟩=some (.string (B x)))(h0:xs≠[])(hcap:xs.length≤c)(hl:xs.flatten.length≤35184372089000)(hn:xs.length≤35184372089000):
 Calls Tryz.prog 19 #[.slice (some ⟨bk,0,none⟩) xs.length c] w fun e w'=>e= .returned (.string (B xs.flatten))∧Below w.heap.size w w':=by
 have hbk:bk<w.heap.size:=by
  obtain⟨x,l,rfl⟩:=List.exists_cons_of_ne_nil h0;exact World.block_lt_of_cell? _ _ (hcells 0 x rfl)
 have hm:(xs.map B).map (·.data.toList)=xs:=by
  rw [List.map_map]
  conv=>rhs;rw [←List.map_id xs]
  exact List.map_congr_left fun x _=>Za5 x
 have hj:Calls Tryz.prog 44 #[.slice (some ⟨bk,0,none⟩) xs.length c,.string ⟨#[]⟩] w fun e w'=>e= .returned (.string (B xs.flatten))∧Below w.heap.size w w':=by
  have hq:=Tryz.strings_Join bk 0 c (xs.map B) ⟨#[]⟩ w (by
   intro j x hx;rw [List.getElem?_map] at hx;obtain⟨y,hy,rfl⟩:=Option.map_eq_some_iff.1 hx;rw [Nat.zero_add];exact hcells j y hy) hbk (by rw [List.length_map];omega) (by rw [List.length_map];exact hcap) (by
    rw [hm];show(Lib.join xs []).length≤_
    rw [ZiM];omega)
  rw [List.length_map,hm] at hq;have e:Lib.join xs (⟨#[]⟩:ByteArray).data.toList=xs.flatten:=ZiM xs;rw [e] at hq;exact hq
 go_enter Tryz.func19,Tryz.ntmps19
 go_wp2_with (go_at_call 44;refine hj.mono ?_;rintro e w1 ⟨rfl,hb1⟩)
 go_ret
 exact⟨rfl,hb1⟩
end Go.Proofs.YtlhllehffkoloaaGreatDoor
