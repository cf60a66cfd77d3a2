/- Lemmas for TopVersions; conditions: as each says. -/
import Derived.Lib.IndexBytes
import Derived.Test.YtlhllehffkoloaaGreatDoorRows
import Derived.WalkSpells
import Derived.Outline
import Derived.Deep.DeepFit
import Derived.Lib.Index
import Derived.Lib.OthersKept
import Derived.LoopN
import Derived.Test.YtlhllehffkoloaaGreatDoorM1
set_option linter.unusedVariables false
set_option linter.unusedSimpArgs false
set_option maxRecDepth 100000
set_option maxHeartbeats 1000000
namespace Go.Proofs.YtlhllehffkoloaaGreatDoor
open Go Go.RowKit
def Pre (s:ByteArray)(ps:List Int)(r:List UInt8):Prop:=s.data.toList=Zc ps++r∧∀p∈ps,Zi p=true
def Run (ps:List Int)(k i:Nat):Prop:=k≤ps.length∧i=(Zc (ps.take k)).length
theorem Good.pre {s:ByteArray} {ps:List Int} (h:Good s ps):Pre s ps []:=⟨by simpa using h.1,h.2⟩
theorem ZaX.pre {s:ByteArray} {n:Nat} (h:ZaX s n):∃ps r,Pre s ps r∧n=(Zc ps).length∧r≠[]∧ZaU (Zz r):=by
 obtain⟨ps,r,h1,h2,h3,h4,h5⟩:=h;exact⟨ps,r,⟨h1,h2⟩,h3,h4,h5⟩
theorem Run.zero (ps:List Int):Run ps 0 0:=⟨Nat.zero_le _,rfl⟩
theorem Zd8 {ps:List Int} {k:Nat} (h:k<ps.length):ps.getD k 0∈ps:=by
 rw [List.getD_eq_getElem?_getD,List.getElem?_eq_getElem h];exact List.getElem_mem h
theorem ZlM {ps:List Int} {k:Nat} (h:k<ps.length):ps.drop k=ps.getD k 0::ps.drop (k+1):=by
 rw [List.drop_eq_getElem_cons h,List.getD_eq_getElem?_getD,List.getElem?_eq_getElem h];rfl
theorem Zdi {ps:List Int} {k:Nat} (h:k<ps.length):ps.take (k+1)=ps.take k++[ps.getD k 0]:=by
 rw [List.take_succ_eq_append_getElem h,List.getD_eq_getElem?_getD,List.getElem?_eq_getElem h];rfl
theorem Run.drop {s:ByteArray} {ps:List Int} {r:List UInt8} {k i:Nat} (hp:Pre s ps r)(h:Run ps k i):s.data.toList.drop i=Zc (ps.drop k)++r:=by
 have e:Zc ps=Zc (ps.take k)++Zc (ps.drop k):=by rw [←Zhk,List.take_append_drop]
 rw [hp.1,e,List.append_assoc,h.2,List.drop_left]
theorem Run.next {ps:List Int} {k i:Nat} (h:Run ps k i)(hk:k<ps.length):Run ps (k+1) (i+(Lib.encodeRune (ps.getD k 0)).length):=
 ⟨hk,by rw [Zdi hk,Zhk,List.length_append,←h.2,Za4,Zce,List.append_nil]⟩
theorem Run.head {s:ByteArray} {ps:List Int} {r:List UInt8} {k i:Nat} (hp:Pre s ps r)(h:Run ps k i)(hk:k<ps.length):
 ∃t,s.data.toList.drop i=Lib.encodeRune (ps.getD k 0)++t∧Zi (ps.getD k 0)=true∧i<s.size∧i+(Lib.encodeRune (ps.getD k 0)).length≤s.size:=by
 have hd:=h.drop hp;rw [ZlM hk,Za4,List.append_assoc] at hd;have hl:=congrArg List.length hd;rw [List.length_drop,List.length_append] at hl;have h1:=(ZcH (ps.getD k 0)).1;have hs:s.data.toList.length=s.size:=by simp
 rw [hs] at hl;exact⟨_,hd,hp.2 _ (Zd8 hk),by omega,by omega⟩
theorem Run.end_ {s:ByteArray} {ps:List Int} {r:List UInt8} {i:Nat} (hp:Pre s ps r)(h:Run ps ps.length i):i=(Zc ps).length∧s.data.toList.drop i=r∧i+r.length=s.size:=by
 have hd:=h.drop hp;rw [List.drop_length,Zce,List.nil_append] at hd;have h2:=h.2;rw [List.take_length] at h2;refine⟨h2,hd,?_⟩;have hl:=congrArg List.length hp.1;rw [List.length_append] at hl;have hs:s.data.toList.length=s.size:=by simp
 omega
theorem Run.le {s:ByteArray} {ps:List Int} {r:List UInt8} {k i:Nat} (hp:Pre s ps r)(h:Run ps k i):k≤i∧i≤s.size∧k≤ps.length:=by
 have h1:=(Zct (ps.take k)).1;rw [List.length_take,←h.2] at h1;have h0:=h.1;have hl:=congrArg List.length hp.1;have e:Zc ps=Zc (ps.take k)++Zc (ps.drop k):=by rw [←Zhk,List.take_append_drop]
 rw [e,List.length_append,List.length_append,←h.2] at hl;have hs:s.data.toList.length=s.size:=by simp
 omega
theorem Zsz (s:ByteArray)(i:Nat):(s.extract i s.size).data.toList=s.data.toList.drop i:=Lib.extract_to_end s i
theorem ZlJ (s:ByteArray)(i:Nat)(h:i<s.size):Lib.decodeGo (s.extract i s.size)=Zz (s.data.toList.drop i):=by
 have e:=Zsz s i;have hz:(s.extract i s.size).size=s.size - i:=by
  have h2:=congrArg List.length e;have h3:(s.extract i s.size).data.toList.length=(s.extract i s.size).size:=by simp
  have h4:s.data.toList.length=s.size:=by simp
  rw [h3,List.length_drop,h4] at h2;exact h2
 unfold Lib.decodeGo;rw [if_neg (by omega),Zin,e,List.drop_zero]
def Step (s:ByteArray)(ps:List Int)(k i:Nat)(p:Int)(n:Nat):Prop:=
 (∃t,s.data.toList.drop i=Lib.encodeRune p++t)∧n=(Lib.encodeRune p).length∧p=ps.getD k 0∧Zi p=true
theorem Run.step {s:ByteArray} {ps:List Int} {r:List UInt8} {k i:Nat} (hp:Pre s ps r)(h:Run ps k i)(hk:k<ps.length):
 ∃(p:Int) (n:Nat),Step s ps k i p n∧Run ps (k+1) (i+n)∧1≤n∧n≤4∧i+n≤s.size∧0≤p∧p≤1114111∧((p==65533)=false∨(p=65533∧2≤n)):=by
 obtain⟨t,hd,hs,hi,hi2⟩:=h.head hp hk;have h4:=Zai.1 hs;have h5:=ZcH (ps.getD k 0);refine⟨_,_,⟨⟨t,hd⟩,rfl,rfl,hs⟩,h.next hk,h5.1,h5.2,hi2,h4.1,h4.2.1,?_⟩;by_cases h6:ps.getD k 0=65533
 · right
   rw [h6];exact⟨rfl,by decide⟩
 · left
   simpa using h6
theorem Step.snoc {s:ByteArray} {ps:List Int} {k i n:Nat} {p:Int} (h:Step s ps k i p n)(hk:k<ps.length):ps.take (k+1)=ps.take k++[p]:=by
 rw [Zdi hk,h.2.2.1]
def Zk (w:World):Prop:=Lib.Utf8Tabs 1 2 w
theorem Zcy (e a:Int)(w:World):
 Calls Tryz.prog 11 #[.agg #[.int .i64 e,.int .i64 a]] w fun x w'=>x= .returned (.bool (e !=0))∧Below w.heap.size w w':=by
 go_enter Tryz.func11,Tryz.ntmps11
 go_wp2
 go_ret
 exact⟨rfl,(Below.refl _ _).alloc (Nat.le_refl _) _⟩
theorem Zo5 (s:ByteArray)(i:Nat)(p:Int)(t:List UInt8)(hd:s.data.toList.drop i=Lib.encodeRune p++t)(hp:Zi p=true)(w:World)(hT:Zk w):
 Calls Tryz.prog 250 #[.string (s.extract i s.size)] w fun e w'=>e= .returned (.tuple #[.int .i32 p,.int .i64 (Lib.encodeRune p).length])∧Below w.heap.size w w':=by
 have hi:i<s.size:=by
  have h1:=congrArg List.length hd;have h2:=(ZcH p).1;have h4:s.data.toList.length=s.size:=by simp
  rw [List.length_drop,List.length_append,h4] at h1;omega
 have h:=Tryz.utf8_DecodeRuneInString (s.extract i s.size) w hT;rw [ZlJ s i hi,hd,ZeK hp] at h;have e:((p.toNat:Nat):Int)=p:=by have:=Zai.1 hp;omega
 simp only [e] at h;exact h
theorem Zo4 (s:ByteArray)(i:Nat)(hi:i<s.size)(hd:ZaU (Zz (s.data.toList.drop i)))(w:World)(hT:Zk w):
 Calls Tryz.prog 250 #[.string (s.extract i s.size)] w fun e w'=>(∃n:Nat,n≤1∧e= .returned (.tuple #[.int .i32 65533,.int .i64 n]))∧Below w.heap.size w w':=by
 have h:=Tryz.utf8_DecodeRuneInString (s.extract i s.size) w hT;rw [ZlJ s i hi] at h;refine h.mono fun e w' ⟨he,hb⟩=>⟨⟨_,hd.2,?_⟩,hb⟩
 rw [he,hd.1];rfl
theorem Zak {w w':World} (h:Zk w){B:Nat} (hb:Below B w w')(hB:w.heap.size≤B):Zk w':=Utf8Tabs_below h (hb.mono hB)
def Zqw (ps:List Int)(w0:World)(n at_:Value)(wr:World):Prop:=
 ∃k i:Nat,n= .int .i64 k∧at_= .int .i64 i∧Run ps k i∧Below (w0.heap.size+1) (w0.alloc (.cells #[.int .i64 0,.int .i64 0] 39)) wr
theorem Zo6 {s:ByteArray} {ps:List Int} {k i n:Nat} {p:Int} (h:Step s ps k i p n)(w:World)(hT:Zk w):
 Calls Tryz.prog 250 #[.string (s.extract i s.size)] w fun e w'=>e= .returned (.tuple #[.int .i32 p,.int .i64 n])∧Below w.heap.size w w':=by
 obtain⟨⟨t,ht⟩,hn,_,hs⟩:=h;subst hn;exact Zo5 s i p t ht hs w hT
theorem ZnW (s:ByteArray)(ps:List Int)(r:List UInt8)(hp:Pre s ps r)(hr:r=[]∨ZaU (Zz r))(hs:s.size≤140737488355328)(w:World)(hT:Zk w):
 Calls Tryz.prog 221 #[.string s] w fun e w'=>
  ((r=[]∧e= .returned (.tuple #[.int .i64 ps.length,.agg #[.int .i64 0,.int .i64 0]]))∨(r≠[]∧e= .returned (.tuple #[.int .i64 0,.agg #[.int .i64 2,.int .i64 (Zc ps).length]])))∧Below w.heap.size w w':=by
 go_enter Tryz.func221,Tryz.ntmps221
 go_wp2_with fail
 go_loopw [4,5] (fun n i wr=>Zqw ps w n i wr) (fun _ i _=>s.size - (intOf i).toNat)
 case atStart=>exact⟨0,0,rfl,rfl,Run.zero _,Below.refl _ _⟩
 case round=>
  obtain⟨k,i,rfl,rfl,hrun,hb⟩:=hrel;have hle:=hrun.le hp;obtain⟨hc0,hc1,hf0,hf1,hsz⟩:=ZaD hb;have hTr:Zk wr:=Zak (Zak hT (Below.alloc (Below.refl (w.heap.size) w) (Nat.le_refl _) _) (Nat.le_refl _)) hb (by simp);by_cases hk:k<ps.length
  · obtain⟨p,n,hst,hrun',hn1,hn4,hin,_,_,hq⟩:=hrun.step hp hk;rcases hq with hq|⟨rfl,hq⟩
    all_goals
     go_wp2_with (go_at_call 250;refine(Zo6 hst _ hTr).mono ?_;rintro e w' ⟨rfl,hb'⟩)
     go_roundw
     case rel=>exact⟨k+1,i+n,by go_num,by go_num,hrun',hb.trans (hb'.mono (by omega))⟩
     case measure=>simp [intOf];omega
  · have hk2:k=ps.length:=by omega
    subst hk2;obtain⟨hi,hdr,hir⟩:=hrun.end_ hp;by_cases hr0:r=[]
    · have hge:¬i<s.size:=by rw [hr0] at hir;simp at hir;omega
      clear hdr hir hi;go_wp2_with fail
      refine bodyPost_ret (v:= .tuple #[.int .i64 ps.length,.agg #[.int .i64 0,.int .i64 0]]) (by simp [results,Tryz.results221,go_sem,hc0,hc1]) rfl ⟨.inl ⟨hr0,rfl⟩,?_⟩;exact(((((Below.refl _ w).alloc (Nat.le_refl _) _).trans (hb.mono (by omega))).setCell (Nat.le_refl _) _).setCell (Nat.le_refl _) _)
    · have hlt:i<s.size:=by have:=List.length_pos_iff.2 hr0;omega
      have he:ZaU (Zz (s.data.toList.drop i)):=by rw [hdr];exact hr.resolve_left hr0
      have Hi:=Lib.hid hi;clear hdr hir hi;go_wp2_with (go_at_call 250;refine(Zo4 s i hlt he _ hTr).mono ?_;rintro e w' ⟨⟨n,hn,rfl⟩,hb'⟩;have hb2:=hb'.mono (B':=w.heap.size+1) (by omega);have hb3:=hb.trans hb2;obtain⟨hc0',hc1',hf0',hf1',hsz'⟩:=ZaD hb3)
      rw [Hi.out];refine bodyPost_ret (v:= .tuple #[.int .i64 0,.agg #[.int .i64 2,.int .i64 (Zc ps).length]]) (by simp [results,Tryz.results221,go_sem,hc0',hc1']) rfl ⟨.inr ⟨hr0,rfl⟩,?_⟩;exact(((((Below.refl _ w).alloc (Nat.le_refl _) _).trans (hb3.mono (by omega))).setCell (Nat.le_refl _) _).setCell (Nat.le_refl _) _)
theorem Zjp (s:ByteArray)(ps:List Int)(hg:Good s ps)(hs:s.size≤140737488355328)(w:World)(hT:Zk w):
 Calls Tryz.prog 221 #[.string s] w fun e w'=>e= .returned (.tuple #[.int .i64 ps.length,.agg #[.int .i64 0,.int .i64 0]])∧Below w.heap.size w w':=
 (ZnW s ps [] hg.pre (.inl rfl) hs w hT).mono fun _ _ ⟨h,hb⟩=>by
  rcases h with⟨_,h⟩|⟨h,_⟩
  · exact⟨h,hb⟩
  · exact absurd rfl h
theorem Zjo (s:ByteArray)(n:Nat)(hg:ZaX s n)(hs:s.size≤140737488355328)(w:World)(hT:Zk w):
 Calls Tryz.prog 221 #[.string s] w fun e w'=>e= .returned (.tuple #[.int .i64 0,.agg #[.int .i64 2,.int .i64 n]])∧Below w.heap.size w w':=by
 obtain⟨ps,r,hp,rfl,hr,he⟩:=hg.pre;refine(ZnW s ps r hp (.inr he) hs w hT).mono fun _ _ ⟨h,hb⟩=> ?_;rcases h with⟨h,_⟩|⟨_,h⟩
 · exact absurd h hr
 · exact⟨h,hb⟩
theorem ZN {w:World} (h:Zk w)(o:Obj):Zk (w.alloc o):=Zak h ((Below.refl _ _).alloc (Nat.le_refl _) _) (Nat.le_refl _)
theorem Zhz (s:ByteArray)(ps:List Int)(hg:Good s ps)(hs:s.size≤140737488355328)(w:World)(hT:Zk w):
 Calls Tryz.prog 145 #[.string s] w fun e w'=>e= .returned (.agg #[.int .i64 0,.int .i64 0])∧Below w.heap.size w w':=by
 go_enter Tryz.func145,Tryz.ntmps145
 go_wp2_with (go_at_call 221;refine(Zjp s ps hg hs _ (by first|exact hT|exact ZN hT _)).mono ?_;rintro e w1 ⟨rfl,hb1⟩;have hz0:=hb1.size;try (obtain⟨hc0,hc1,hf0,hf1,hz1⟩:=ZaD (hb1.mono (by simp))))
 refine bodyPost_ret (v:= .agg #[.int .i64 0,.int .i64 0]) (by simp [results,Tryz.results145,go_sem,hc0,hc1,hz1]) rfl ⟨rfl,?_⟩
 (repeat (first|exact Zd hb1|exact hb1|refine Below.alloc ?_ (by first|exact Nat.le_refl _|exact hz0|(simp;done)|(simp;omega)) _|refine Below.setCell ?_ (by first|exact Nat.le_refl _|exact hz0|(simp;done)|(simp;omega)) _))
theorem ZoX (s:ByteArray)(n:Nat)(hg:ZaX s n)(hs:s.size≤140737488355328)(w:World)(hT:Zk w):
 Calls Tryz.prog 145 #[.string s] w fun e w'=>e= .returned (.agg #[.int .i64 2,.int .i64 n])∧Below w.heap.size w w':=by
 go_enter Tryz.func145,Tryz.ntmps145
 go_wp2_with (go_at_call 221;refine(Zjo s n hg hs _ (by first|exact hT|exact ZN hT _)).mono ?_;rintro e w1 ⟨rfl,hb1⟩;have hz0:=hb1.size;try (obtain⟨hc0,hc1,hf0,hf1,hz1⟩:=ZaD (hb1.mono (by simp))))
 refine bodyPost_ret (v:= .agg #[.int .i64 2,.int .i64 n]) (by simp [results,Tryz.results145,go_sem,hc0,hc1,hz1]) rfl ⟨rfl,?_⟩
 (repeat (first|exact Zd hb1|exact hb1|refine Below.alloc ?_ (by first|exact Nat.le_refl _|exact hz0|(simp;done)|(simp;omega)) _|refine Below.setCell ?_ (by first|exact Nat.le_refl _|exact hz0|(simp;done)|(simp;omega)) _))
theorem Zj9 (s:ByteArray)(ps:List Int)(hg:Good s ps)(hs:s.size≤140737488355328)(w:World)(hT:Zk w):
 Calls Tryz.prog 342 #[.string s] w fun e w'=>e= .returned (.int .i64 ps.length)∧Below w.heap.size w w':=by
 go_enter Tryz.func342,Tryz.ntmps342
 go_wp2_with (go_at_call 221;refine(Zjp s ps hg hs _ (by first|exact hT|exact ZN hT _)).mono ?_;rintro e w1 ⟨rfl,hb1⟩;have hz0:=hb1.size;try (obtain⟨hc0,hc1,hf0,hf1,hz1⟩:=ZaD (hb1.mono (by simp))))
 go_ret
 exact⟨rfl,by(repeat (first|exact Zd hb1|exact hb1|refine Below.alloc ?_ (by first|exact Nat.le_refl _|exact hz0|(simp;done)|(simp;omega)) _|refine Below.setCell ?_ (by first|exact Nat.le_refl _|exact hz0|(simp;done)|(simp;omega)) _))⟩
theorem Zo2 (s:ByteArray)(n:Nat)(hg:ZaX s n)(hs:s.size≤140737488355328)(w:World)(hT:Zk w):
 Calls Tryz.prog 342 #[.string s] w fun e w'=>e= .returned (.int .i64 0)∧Below w.heap.size w w':=by
 go_enter Tryz.func342,Tryz.ntmps342
 go_wp2_with (go_at_call 221;refine(Zjo s n hg hs _ (by first|exact hT|exact ZN hT _)).mono ?_;rintro e w1 ⟨rfl,hb1⟩;have hz0:=hb1.size;try (obtain⟨hc0,hc1,hf0,hf1,hz1⟩:=ZaD (hb1.mono (by simp))))
 go_ret
 exact⟨rfl,by(repeat (first|exact Zd hb1|exact hb1|refine Below.alloc ?_ (by first|exact Nat.le_refl _|exact hz0|(simp;done)|(simp;omega)) _|refine Below.setCell ?_ (by first|exact Nat.le_refl _|exact hz0|(simp;done)|(simp;omega)) _))⟩
end Go.Proofs.YtlhllehffkoloaaGreatDoor
namespace Go.Proofs.YtlhllehffkoloaaGreatDoor
open Go
def Zx (n:Int):UInt8:=if n<10 then(48+n).toNat.toUInt8 else(55+n).toNat.toUInt8
def Zp (p:Int):List UInt8:=[Zx (p / 4096),Zx (p / 256 % 16),Zx (p / 16 % 16),Zx (p % 16),32]
def ZD (ps:List Int):List UInt8:=ps.flatMap Zp
def ZhT (ps:List Int):Prop:=∀p∈ps,0≤p∧p≤65535
def Zsb:List UInt8:=[48,49,50,51,52,53,54,55,56,57,65,66,67,68,69,70]
theorem Zjt {n:Int} (h0:0≤n)(h1:n<16):n=0∨n=1∨n=2∨n=3∨n=4∨n=5∨n=6∨n=7∨n=8∨n=9∨n=10∨n=11∨n=12∨n=13∨n=14∨n=15:=by omega
theorem ZgL {n:Int} (h0:0≤n)(h1:n<16):Lib.indexByte Zsb (Zx n)=n:=by
 rcases Zjt h0 h1 with rfl|rfl|rfl|rfl|rfl|rfl|rfl|rfl|rfl|rfl|rfl|rfl|rfl|rfl|rfl|rfl<;>decide
theorem ZgK {n:Int} (h0:0≤n)(h1:n<16):Zx n≠32:=by
 rcases Zjt h0 h1 with rfl|rfl|rfl|rfl|rfl|rfl|rfl|rfl|rfl|rfl|rfl|rfl|rfl|rfl|rfl|rfl<;>decide
theorem ZgM {n m:Int} (h0:0≤n)(h1:n<16)(g0:0≤m)(g1:m<16)(h:Zx n=Zx m):n=m:=by
 rw [←ZgL h0 h1,h,ZgL g0 g1]
theorem ZgO (p:Int)(ps:List Int):ZD (p::ps)=Zp p++ZD ps:=rfl
theorem Zmu (ps:List Int):(ZD ps).length=5*ps.length:=by
 induction ps with
 |nil=>rfl
 |cons p ps ih=>rw [ZgO,List.length_append,ih,List.length_cons];simp [Zp];omega
theorem Zmt (ps:List Int)(k j:Nat)(hk:k<ps.length)(hj:j<5):(ZD ps)[5*k+j]? =(Zp (ps.getD k 0))[j]?:=by
 induction ps generalizing k with
 |nil=>simp at hk
 |cons p ps ih=>
  rw [ZgO];cases k with
  |zero=>rw [List.getElem?_append_left (by simp [Zp];omega)];simp
  |succ k=>
   rw [List.getElem?_append_right (by simp [Zp];omega)];have e:5*(k+1)+j - (Zp p).length=5*k+j:=by simp [Zp];omega
   rw [e,ih k (by simpa using hk)];simp
def fnd:List Int→Int→Int
 |[],_=> -1
 |q::l,p=>if q=p then 0 else if fnd l p= -1 then -1 else fnd l p+1
theorem ZfC (l:List Int)(p:Int): -1≤fnd l p:=by
 induction l with
 |nil=>simp [fnd]
 |cons q l ih=>unfold fnd;split; · decide
               split<;>omega
theorem ZfD (l:List Int)(p:Int):fnd l p<l.length:=by
 induction l with
 |nil=>simp [fnd]
 |cons q l ih=>unfold fnd;rw [List.length_cons];split; · omega
               split<;>omega
theorem ZsO {l:List Int} {p:Int}:fnd l p= -1↔p∉l:=by
 induction l with
 |nil=>simp [fnd]
 |cons q l ih=>
  have:=ZfC l p;unfold fnd;by_cases h:q=p
  · subst h;simp
  · have h':p≠q:=fun e=>h e.symm;rw [if_neg h];by_cases h2:fnd l p= -1
    · rw [if_pos h2];simp [h',ih.1 h2]
    · rw [if_neg h2];have:p∈l:=Classical.byContradiction fun hn=>h2 (ih.2 hn);simp [this];omega
theorem ZeG {p:Int} (h:0≤p∧p≤65535):(0≤p / 4096∧p / 4096<16)∧(0≤p / 256 % 16∧p / 256 % 16<16)∧(0≤p / 16 % 16∧p / 16 % 16<16)∧(0≤p % 16∧p % 16<16):=by omega
theorem ZrF {p q:Int} (hp:0≤p∧p≤65535)(hq:0≤q∧q≤65535)(h:Zp p=Zp q):p=q:=by
 obtain⟨a1,a2,a3,a4⟩:=ZeG hp;obtain⟨b1,b2,b3,b4⟩:=ZeG hq;simp only [Zp,List.cons.injEq,and_true] at h;obtain⟨e1,e2,e3,e4⟩:=h;have f1:=ZgM a1.1 a1.2 b1.1 b1.2 e1;have f2:=ZgM a2.1 a2.2 b2.1 b2.2 e2;have f3:=ZgM a3.1 a3.2 b3.1 b3.2 e3;have f4:=ZgM a4.1 a4.2 b4.1 b4.2 e4;omega
theorem ZgP {b:UInt8} {l sub:List UInt8} (h:sub.isPrefixOf (b::l)=false):Lib.index (b::l) sub=if Lib.index l sub= -1 then -1 else Lib.index l sub+1:=by
 rw [Lib.index,h];simp
theorem Ztg (ps:List Int)(p:Int)(hs:ZhT ps)(hp:0≤p∧p≤65535):Lib.index (ZD ps) (Zp p)=if fnd ps p= -1 then -1 else 5*fnd ps p:=by
 induction ps with
 |nil=>rfl
 |cons q ps ih=>
  have hq:=hs q (by simp);have ih:=ih (fun x hx=>hs x (by simp [hx]));obtain⟨a1,a2,a3,a4⟩:=ZeG hp;have n1:=ZgK a1.1 a1.2;have n2:=ZgK a2.1 a2.2;have n3:=ZgK a3.1 a3.2;have n4:=ZgK a4.1 a4.2;have hg:=ZfC ps p;rw [ZgO];by_cases e:q=p
  · subst e;simp only [fnd,if_true];unfold Lib.index Zp;simp [List.isPrefixOf]
  · have hne:¬Zp p=Zp q:=fun h=>e (ZrF hp hq h).symm;have h0:(Zp p).isPrefixOf (Zp q++ZD ps)=false:=by
     rw [Bool.eq_false_iff];intro h;have:=List.isPrefixOf_iff_prefix.1 h;exact hne (List.IsPrefix.eq_of_length (List.prefix_of_prefix_length_le this (List.prefix_append _ _) (by simp [Zp])) (by simp [Zp]))
    have hr:Lib.index (Zp q++ZD ps) (Zp p)=if Lib.index (ZD ps) (Zp p)= -1 then -1 else Lib.index (ZD ps) (Zp p)+5:=by
     generalize hI:Lib.index (ZD ps) (Zp p)=I;have hI1: -1≤I:=by rw [←hI];exact Lib.index_ge _ _
     have e5:∀x y z u:UInt8,Lib.index (x::y::z::u::32::ZD ps) (Zp p)=if Lib.index (ZD ps) (Zp p)= -1 then(if(Zp p).isPrefixOf (x::y::z::u::32::ZD ps) then 0 else -1) else(if(Zp p).isPrefixOf (x::y::z::u::32::ZD ps) then 0 else Lib.index (ZD ps) (Zp p)+5):=by
      intro x y z u;have i4:Lib.index (32::ZD ps) (Zp p)=if Lib.index (ZD ps) (Zp p)= -1 then -1 else Lib.index (ZD ps) (Zp p)+1:=ZgP (by simp [Zp,List.isPrefixOf,beq_eq_false_iff_ne.2 n1])
      have i3:Lib.index (u::32::ZD ps) (Zp p)=if Lib.index (32::ZD ps) (Zp p)= -1 then -1 else Lib.index (32::ZD ps) (Zp p)+1:=ZgP (by simp [Zp,List.isPrefixOf,beq_eq_false_iff_ne.2 n2])
      have i2:Lib.index (z::u::32::ZD ps) (Zp p)=if Lib.index (u::32::ZD ps) (Zp p)= -1 then -1 else Lib.index (u::32::ZD ps) (Zp p)+1:=ZgP (by simp [Zp,List.isPrefixOf,beq_eq_false_iff_ne.2 n3])
      have i1:Lib.index (y::z::u::32::ZD ps) (Zp p)=if Lib.index (z::u::32::ZD ps) (Zp p)= -1 then -1 else Lib.index (z::u::32::ZD ps) (Zp p)+1:=ZgP (by simp [Zp,List.isPrefixOf,beq_eq_false_iff_ne.2 n4])
      have i0:Lib.index (x::y::z::u::32::ZD ps) (Zp p)=if(Zp p).isPrefixOf (x::y::z::u::32::ZD ps) then 0 else if Lib.index (y::z::u::32::ZD ps) (Zp p)== -1 then -1 else Lib.index (y::z::u::32::ZD ps) (Zp p)+1:=by rw [Lib.index]
      rw [i0,i1,i2,i3,i4,hI];by_cases h1:I= -1
      · simp [h1]
      · have k1:¬I+1= -1:=by omega
        have k2:¬I+1+1= -1:=by omega
        have k3:¬I+1+1+1= -1:=by omega
        have k4:¬I+1+1+1+1= -1:=by omega
        simp only [h1,k1,k2,k3,k4,if_false,beq_iff_eq];split
        · rfl
        · omega
     have:=e5 (Zx (q / 4096)) (Zx (q / 256 % 16)) (Zx (q / 16 % 16)) (Zx (q % 16));have h0':(Zp p).isPrefixOf (Zx (q / 4096)::Zx (q / 256 % 16)::Zx (q / 16 % 16)::Zx (q % 16)::32::ZD ps)=false:=h0;rw [h0',hI] at this;exact this
    rw [hr,ih];simp only [fnd,if_neg e];by_cases h2:fnd ps p= -1
    · simp [h2]
    · have k:¬5*fnd ps p= -1:=by omega
      have k':¬fnd ps p+1= -1:=by omega
      simp only [h2,k,k',if_false];omega
end Go.Proofs.YtlhllehffkoloaaGreatDoor
namespace Go.Proofs.YtlhllehffkoloaaGreatDoor
open Go Go.RowKit
theorem Zva {p:Int} (h:Zi p=true):0≤p∧p≤1114111∧(p<55296∨57343<p):=Zai.1 h
theorem Zfq (p:Int)(w:World):
 Calls Tryz.prog 322 #[.int .i32 p] w fun e w'=>e= .returned (.bool (Zi p))∧w=w':=by
 go_enter Tryz.func322,Tryz.ntmps322
 go_wp2
 all_goals (go_ret;exact⟨ZcR (by rw [Bool.eq_iff_iff,Zai];simp;try omega),rfl⟩)
theorem Zb2 (p:Int)(w:World):
 Calls Tryz.prog 33 #[.int .i32 p] w fun e w'=>e= .returned (.bool (Zi p))∧w=w':=by
 go_enter Tryz.func33,Tryz.ntmps33
 go_wp2
 all_goals (go_ret;exact⟨ZcR (by rw [Bool.eq_iff_iff,Zai];simp;try omega),rfl⟩)
theorem Zb1 {p:Int} (h:Zi p=true)(w:World):
 Calls Tryz.prog 34 #[.int .i32 p] w fun e w'=>e= .returned (.string ⟨(Lib.encodeRune p).toArray⟩)∧Below w.heap.size w w':=by
 have k1:=conv1 (P:=Tryz.prog) 105 9 5 Tryz.underlying105 Tryz.underlying5 Tryz.underlying9;have k2:=Zih (P:=Tryz.prog) 105 9 5 Tryz.underlying105 Tryz.underlying5 Tryz.underlying9;have k3:=conv3 (P:=Tryz.prog) 105 9 5 Tryz.underlying105 Tryz.underlying5 Tryz.underlying9;have k4:=conv4 (P:=Tryz.prog) 105 9 5 Tryz.underlying105 Tryz.underlying5 Tryz.underlying9;have H:=Lib.hid (Zvw p);have D:=Lib.hid (Zd7 h);have hp:=Zva h;obtain⟨g0,g1,_⟩:=hp;clear h;go_enter Tryz.func34,Tryz.ntmps34
 go_wp2
 all_goals go_ret
 all_goals
  refine⟨Zjj ?_,(Below.refl _ _).alloc (Nat.le_refl _) _⟩;rw [←H.out]
  first
   |rw [Lib.encodeRuneZ_one (by omega) (by omega)]
   |rw [Lib.encodeRuneZ_two (by omega) (by omega)]
   |rw [Lib.encodeRuneZ_three (by omega)]
   |rw [Lib.encodeRuneZ_four (by omega) (by omega)]
def ZB (l:List UInt8)(i:Nat):Int:=if l.length≤i then -1 else if(l.getD i 0).toNat<128∨191<(l.getD i 0).toNat then -1 else(l.getD i 0).toNat - 128
theorem Zmm (s:ByteArray)(i:Nat)(h:i<s.size):s.data.toList.getD i 0=s[i]:=by
 have h2:i<s.data.toList.length:=by simpa using h
 simp [List.getD,List.getElem?_eq_getElem h2];rfl
theorem Zcc (s:ByteArray)(i:Int)(h0:0≤i)(w:World):
 Calls Tryz.prog 32 #[.string s,.int .i64 i] w fun e w'=>e= .returned (.int .i32 (ZB s.data.toList i.toNat))∧w=w':=by
 obtain⟨k,rfl⟩:=Int.eq_ofNat_of_zero_le h0;rw [Int.toNat_natCast];by_cases hk:k<s.size
 · have hg:=Lib.hid (Zmm s k hk);have hl:Hid (s.data.toList.length=s.size):=by simp [Hid]
   have hb:=(s[k]).toNat_lt;go_enter Tryz.func32,Tryz.ntmps32
   go_wp2
   all_goals go_ret
   all_goals
    refine⟨ZaA ?_,rfl⟩;unfold ZB;rw [hg.out,hl.out,if_neg (by omega)]
    first|rw [if_pos (by omega)]|rw [if_neg (by omega)]
 · have hl:Hid (s.data.toList.length=s.size):=by simp [Hid]
   go_enter Tryz.func32,Tryz.ntmps32
   go_wp2
   go_ret
   refine⟨ZaA ?_,rfl⟩;unfold ZB;rw [hl.out,if_pos (by omega)]
theorem Zu2 {p:Int} (h:Zi p=true):Lib.runeLen p=(Lib.encodeRune p).length:=by
 unfold Lib.runeLen;rcases Zd7 h with⟨h0,h1⟩|⟨h0,h1⟩|h3|⟨h0,h1⟩
 · rw [Zco h0 h1];simp only [List.length_cons,List.length_nil];repeat' split
   all_goals omega
 · rw [Zc8 h0 h1];simp only [List.length_cons,List.length_nil];repeat' split
   all_goals omega
 · rw [Zc7 h3];simp only [List.length_cons,List.length_nil];repeat' split
   all_goals omega
 · rw [Zc6 h0 h1];simp only [List.length_cons,List.length_nil];repeat' split
   all_goals omega
theorem ZkE {p:Int} (h:Zi p=true)(w:World):
 Calls Tryz.prog 323 #[.int .i32 p] w fun e w'=>e= .returned (.int .i64 (Lib.encodeRune p).length)∧w=w':=
 (Tryz.utf8_RuneLen p w).mono fun _ _ ⟨he,hw⟩=>⟨by rw [he,Zu2 h],hw.symm⟩
def ZM (ps:List Int):List Int:=ps.flatMap Lib.encodeRuneZ
theorem Zhm (a:List Int)(p:Int):ZM (a++[p])=ZM a++Lib.encodeRuneZ p:=by simp [ZM]
theorem Zhl (ps:List Int):(ZM ps).length=(Zc ps).length:=by
 induction ps with
 |nil=>rfl
 |cons p ps ih=>
  rw [Za4,List.length_append,←ih];simp [ZM,Lib.encodeRune]
theorem Zhi (ps:List Int):strOfNums (ZM ps)=⟨(Zc ps).toArray⟩:=by
 unfold strOfNums;congr 2
 induction ps with
 |nil=>rfl
 |cons p ps ih=>
  rw [Za4,←ih];simp [ZM,Lib.encodeRune]
theorem Zar.get {w:World} {B:Nat} {k:IntKind} {A:Option Addr} {zs:List Int} {i:Nat} (h:Zar w B k A zs)(hi:i<zs.length):
 ∃ad p,A=some ad∧ad.block<B∧w.cell? (ad.add i)=some (.int k p)∧Hid (zs.getD i 0=p)∧p∈zs:=by
 obtain⟨ad,e,hb,hc⟩:=h.at_ hi;exact⟨ad,_,e,hb,hc,rfl,Zd8 hi⟩
theorem Zgv:(Tryz.prog.info? 5).map (fun i=>(i.zero,i.size,i.bytes))=some (some (.int .u8 0),1,1):=by kernel_rfl
theorem ZnU:(Tryz.prog.info? 21).map (fun i=>(i.zero,i.size,i.bytes))=some (some (.int .i32 0),1,4):=by kernel_rfl
def ZqU (ps:List Int)(w0:World)(b i:Value)(wr:World):Prop:=
 ∃k:Nat,k≤ps.length∧i= .int .i64 k∧wr.ownsRow w0.heap.size 5 1 b (ZM (ps.take k)).length ((ZM (ps.take k)).map (Value.int .u8))∧Below w0.heap.size w0 wr
def ZkK (ps:List Int)(sz i:Value):Prop:=∃k:Nat,k≤ps.length∧i= .int .i64 k∧sz= .int .i64 (Zc (ps.take k)).length
theorem ZkR (A:Option Addr)(c:Nat)(ps:List Int)(w:World){B:Nat} (hn:Zar w B .i32 A ps)(hB:B≤w.heap.size)(hps:∀p∈ps,Zi p=true)(hl:ps.length≤35184372088000):
 Calls Tryz.prog 275 #[.slice A ps.length c] w fun e w'=>e= .returned (.tuple #[.string ⟨(Zc ps).toArray⟩,.bool true])∧Below w.heap.size w w':=by
 obtain⟨i0,hi,hz0,hz1,hz2⟩:=info_parts Zgv;go_enter Tryz.func275,Tryz.ntmps275
 go_wp2_with fail
 go_loop [4,12] (fun sz i=>ZkK ps sz i) (fun _ i=>ps.length - (intOf i).toNat)
 case atStart=>exact⟨0,Nat.zero_le _,rfl,rfl⟩
 case round=>
  obtain⟨k,hk,rfl,rfl⟩:=hrel;have h4:=(Zct (ps.take k)).2;rw [List.length_take] at h4;by_cases hlt:k<ps.length
  · obtain⟨ad,p,rfl,_,hc,hp,hm⟩:=hn.get hlt;have hs:=hps p hm;have hlen:=ZcH p;have hnext:Hid ((Zc (ps.take (k+1))).length=(Zc (ps.take k)).length+(Lib.encodeRune p).length):=by
     rw [Zdi hlt,hp.out,ZjF,List.length_append];rfl
    clear hps hn;go_wp2_with (first|(go_at_call 322;refine(Zfq _ _).mono ?_;rintro e w' ⟨rfl,rfl⟩)|(go_at_call 323;refine(ZkE hs _).mono ?_;rintro e w' ⟨rfl,rfl⟩))
    go_round
    case rel=>exact⟨k+1,by omega,by go_num,by rw [hnext.out];go_num⟩
    case measure=>simp [intOf];omega
  · have hk2:k=ps.length:=by omega
    subst hk2;rw [List.take_length] at h4⊢;clear hlt;go_wp2_with (at_make;refine wpList_make_own _ rfl _ _ 105 rfl w.heap.size 5 i0 (.int .u8 0) 1 Tryz.underlying105 hi hz0 hz1 .i64 .i64 _ (Zc ps).length rfl rfl rfl (by rw [hz2];omega) (by unfold maxLen;omega) (Nat.le_refl _) ?_;intro w1 hown hgrow)
    have hb1:Below w.heap.size w w1:=(Below.refl _ _).grown hgrow (Nat.le_refl _) (by simp);clear hgrow;go_loopw [7,28] (fun b i wr=>ZqU ps w b i wr) (fun _ i _=>ps.length - (intOf i).toNat)
    case atStart=>exact⟨0,Nat.zero_le _,rfl,hown,hb1⟩
    case round=>
     obtain⟨k,hk,rfl,hownk,hbk⟩:=hrel;have hnk:=hn.below (hbk.mono hB);have hsz:=hbk.size;have h4k:=(Zct (ps.take k)).2;rw [List.length_take] at h4k;have hzl:=Zhl (ps.take k);by_cases hlt:k<ps.length
     · obtain⟨ad,p,rfl,_,hc,hp,hm⟩:=hnk.get hlt;have hs:=Zai.1 (hps p hm);have hlen:=ZcH p;have hcap:(ZM (ps.take k)).length+4≤140737488355328:=by omega
       have hnext:Hid ((ZM (ps.take (k+1))).map (Value.int .u8)=(ZM (ps.take k)).map (Value.int .u8)++Lib.runeCells p):=by
        rw [Zdi hlt,hp.out,Zhm,List.map_append];rfl
       have hnext2:Hid ((ZM (ps.take (k+1))).length=(ZM (ps.take k)).length+(Lib.runeCells p).length):=by
        have:=congrArg List.length hnext.out;simp only [List.length_map,List.length_append] at this;exact this
       clear hps hn hnk h4k hzl hown;go_wp2_with (go_at_call 178;refine(Tryz.utf8_AppendRune_plain _ _ _ _ p (by omega) (by omega) _ hownk hcap hsz).mono ?_;rintro e w2 ⟨v',rfl,hown2,o,hg2⟩)
       have hb2:Below w.heap.size w w2:=Z7 (hbk.alloc hsz o) (hownk.alloc o) hg2 (by simp;omega) (Nat.le_refl _);rw [←hnext.out,←hnext2.out] at hown2;go_roundw
       case rel=>exact⟨k+1,by omega,by go_num,hown2,hb2⟩
       case measure=>simp [intOf];omega
     · have hk2:k=ps.length:=by omega
       subst hk2;rw [List.take_length] at hownk;clear hlt;have hconv:=Zd5 (P:=Tryz.prog) 105 9 5 Tryz.underlying105 Tryz.underlying5 Tryz.underlying9 wr hownk;rw [Zhi] at hconv;go_wp2_with fail
       go_ret2
       exact⟨rfl,hbk⟩
def AllRel (ps:List Int)(i:Value):Prop:=∃k:Nat,k≤ps.length∧i= .int .i64 k∧∀p∈ps.take k,Zi p=true
theorem ZqV (A:Option Addr)(c:Nat)(ps:List Int)(w:World){B:Nat} (hn:Zar w B .i32 A ps)(hps:¬∀p∈ps,Zi p=true)(hl:ps.length≤35184372088000):
 Calls Tryz.prog 275 #[.slice A ps.length c] w fun e w'=>e= .returned (.tuple #[.string ⟨#[]⟩,.bool false])∧w=w':=by
 go_enter Tryz.func275,Tryz.ntmps275
 go_wp2_with fail
 go_loop [4,12] (fun sz i=>ZkK ps sz i∧AllRel ps i) (fun _ i=>ps.length - (intOf i).toNat)
 case atStart=>exact⟨⟨0,Nat.zero_le _,rfl,rfl⟩,0,Nat.zero_le _,rfl,by simp⟩
 case round=>
  obtain⟨⟨k,hk,rfl,rfl⟩,k',_,hkk,hall⟩:=hrel;have hkk':k'=k:=by injection hkk with _ h;omega
  subst hkk';have h4:=(Zct (ps.take k')).2;rw [List.length_take] at h4;by_cases hlt:k'<ps.length
  · obtain⟨ad,p,rfl,_,hc,hp,hm⟩:=hn.get hlt;by_cases hs:Zi p=true
    · have hlen:=ZcH p;have hnext:Hid ((Zc (ps.take (k'+1))).length=(Zc (ps.take k')).length+(Lib.encodeRune p).length):=by
       rw [Zdi hlt,hp.out,ZjF,List.length_append];rfl
      have hall':∀q∈ps.take (k'+1),Zi q=true:=by
       rw [Zdi hlt,hp.out];intro q hq;rcases List.mem_append.1 hq with h|h
       · exact hall q h
       · rw [List.mem_singleton.1 h];exact hs
      have Hall:=Lib.hid hall';clear hps hn hall hall' hkk;go_wp2_with (first|(go_at_call 322;refine(Zfq _ _).mono ?_;rintro e w' ⟨rfl,rfl⟩)|(go_at_call 323;refine(ZkE hs _).mono ?_;rintro e w' ⟨rfl,rfl⟩))
      go_round
      case rel=>exact⟨⟨k'+1,by omega,by go_num,by rw [hnext.out];go_num⟩,k'+1,by omega,by go_num,Hall.out⟩
      case measure=>simp [intOf];omega
    · have hs2:Zi p=false:=by simpa using hs
      clear hps hn hall hkk hs;go_wp2_with (first|(go_at_call 322;refine(Zfq _ _).mono ?_;rintro e w' ⟨rfl,rfl⟩))
      go_ret2
      exact⟨rfl,rfl⟩
  · exfalso
    have hk2:k'=ps.length:=by omega
    subst hk2;rw [List.take_length] at hall;exact hps hall
theorem Zi6 {w:World} {base:Nat} {e:TypeId} {size:Nat} {v:Value} {n:Nat} {xs:List Value} (h:w.ownsRow base e size v n xs){K:Nat} {s:ByteArray} {i:Nat} (hk:w.heap[K]? =some (.stringIter s i))(j:Nat):
 (w.iterAt K s j).ownsRow base e size v n xs:=by
 refine⟨h.1,?_⟩;rcases h.2 with hn|⟨g,cap,cur,hv,hb,hg,rest⟩
 · exact .inl hn
 · refine .inr ⟨g,cap,cur,hv,hb,?_,rest⟩;have hne:g≠K:=by
    rintro rfl;rw [hg] at hk;cases hk
   rw [Lib.iterAt_other _ _ _ _ _ hne];exact hg
theorem ZiL {w:World} {base:Nat} {e:TypeId} {size:Nat} {v:Value} {n:Nat} {xs:List Value} (h:w.ownsRow base e size v n xs){K:Nat} {s:ByteArray} {i:Nat} (hk:w.heap[K]? =some (.stringIter s i)):some K≠v.ownBlock:=by
 rcases h.2 with⟨rfl,_⟩|⟨g,cap,cur,rfl,hb,hg,rest⟩
 · simp [Value.ownBlock]
 · intro he;have:K=g:=by simpa [Value.ownBlock] using he
   subst this;rw [hg] at hk;cases hk
theorem Zda {w:World} {K:Nat} {s:ByteArray} {i:Nat} (hk:w.heap[K]? =some (.stringIter s i)):w.iterPos K=i:=by
 simp [World.iterPos,hk]
theorem ZfH {w:World} {K:Nat} {s:ByteArray} {i:Nat} (hk:w.heap[K]? =some (.stringIter s i)):K<w.heap.size:=(Array.getElem?_eq_some_iff.1 hk).1
theorem ZgY {P:Program} {s:ByteArray} {ps:List Int} {k i n:Nat} {p:Int} (h:Step s ps k i p n)(hi:i<s.size)(w:World)(K:Nat)(hk:w.heap[K]? =some (.stringIter s i))(ty:TypeId):
 (Instr.next (.pointer (some ⟨K,0,none⟩)) true ty).run P w= .ok (.tuple #[.bool true,.int .i64 i,.int .i32 p]) (w.iterAt K s (i+n)):=by
 obtain⟨⟨t,ht⟩,hn,_,hs⟩:=h;rw [Lib.run_next_any_at w K s i ty hk hi,Zin,ht,ZeK hs,hn];have e:((p.toNat:Nat):Int)=p:=by have:=Zai.1 hs;omega
 simp only [e]
def Zp9 (ps:List Int)(s:ByteArray)(w0:World)(O:Obj)(K:Nat)(v:Value)(wr:World):Prop:=
 ∃k i:Nat,Run ps k i∧wr.heap[K]? =some (.stringIter s i)∧wr.ownsRow (w0.heap.size+1) 21 1 v k ((ps.take k).map (Value.int .i32))∧Below (w0.heap.size+1) (w0.alloc O) wr
theorem Zng {w:World} {base:Nat} {e:TypeId} {size n:Nat} {ad:Addr} {l c:Nat} {xs:List Value} (h:w.ownsRow base e size (.slice (some ad) l c) n xs):ad.spot=none:=by
 rcases h.2 with⟨h,_⟩|⟨g,cap,cur,h,_⟩
 · cases h
 · injection h with h
   injection h with h
   subst h;rfl
theorem Zui {w:World} {base:Nat} {e:TypeId} {n:Nat} {ad:Addr} {l c:Nat} {zs:List Int} {k:IntKind} (h:w.ownsRow base e 1 (.slice (some ad) l c) n (zs.map (Value.int k))):∃cs fr,w.heap[ad.block]? =some (.cells cs e fr)∧∀j,j<zs.length→cs[ad.off+j]? =some (.int k (zs.getD j 0)):=by
 have hl:zs.length=n:=by simpa using h.1
 rcases h.2 with⟨h,_⟩|⟨g,cap,cur,h,_,hg,hn,_,hs,ht⟩
 · cases h
 · injection h with h
   injection h with h
   subst h;refine⟨cur,(0,0),hg,fun j hj=> ?_⟩;have h1:(cur.toList.take (n*1))[j]? =(zs.map (Value.int k))[j]?:=by rw [ht]
   rw [List.getElem?_take_of_lt (by omega),List.getElem?_map,List.getElem?_eq_getElem hj,Array.getElem?_toList] at h1;rw [Nat.zero_add,h1,List.getD,List.getElem?_eq_getElem hj];rfl
theorem Zqb (s:ByteArray)(ps:List Int)(hg:Good s ps)(hs:s.size≤35184372088000)(w:World)(hT:Zk w):
 Calls Tryz.prog 285 #[.string s] w fun e w'=>∃A c,e= .returned (.tuple #[.slice A ps.length c,.agg #[.int .i64 0,.int .i64 0]])∧ps.length≤c∧Zar w' w'.heap.size .i32 A ps∧(∀ad,A=some ad→w.heap.size≤ad.block∧ad.spot=none∧∃cs fr,w'.heap[ad.block]? =some (.cells cs 21 fr)∧∀j,j<ps.length→cs[ad.off+j]? =some (.int .i32 (ps.getD j 0)))∧Below w.heap.size w w':=by
 obtain⟨i0,hi,iz0,iz1,iz2⟩:=info_parts ZnU;have hlen:=hg.len;have hp:=hg.pre;go_enter Tryz.func285,Tryz.ntmps285
 go_wp2_with (go_at_call 221;refine(Zjp s ps hg (by omega) _ (by first|exact hT|exact ZN hT _)).mono ?_;rintro e w1 ⟨rfl,hb1⟩;have hz1:=Zac hb1;have HB1:=hb1.mono (B':=w.heap.size+1) (by simp);obtain⟨hc0,hc1,hf0,hf1,hlt1⟩:=ZaD HB1)
 refine(Zcy _ _ _).mono ?_;rintro e w2 ⟨rfl,hb2⟩;have hz2:=Zac hb2;have HB2:=(HB1.alloc (by omega) _).trans (hb2.mono (by simp;omega));clear hb1 hc0 hc1 hf0 hf1 hlt1 hb2;go_wp2_with (at_make;refine wpList_make_own _ rfl _ _ 23 rfl (w.heap.size+1) 21 i0 (.int .i32 0) 1 Tryz.underlying23 hi iz0 iz1 .i64 .i64 _ ps.length rfl rfl rfl (by rw [iz2];omega) (by unfold maxLen;omega) (by omega) ?_;intro w3 hown hgrow)
 have HB3:=HB2.grown hgrow (by omega) (by simp);have hz3:=hgrow.size;have hown':=hown.alloc (.stringIter s 0);have hit:=World.iter_heap w3 s 0;clear hown hgrow HB2 HB1;go_loopw [6] (fun v wr=>Zp9 ps s w (.cells #[.int .i64 0,.int .i64 0] 39) w3.heap.size v wr) (fun _ wr=>s.size+1 - wr.iterPos w3.heap.size)
 case atStart=>exact⟨0,0,Run.zero _,hit,hown',HB3.alloc (by omega) _⟩
 case round=>
  obtain⟨k,i,hrun,hK,hownk,hbk⟩:=hrel;have hle:=hrun.le hp;have hKlt:=ZfH hK;by_cases hk:k<ps.length
  · obtain⟨p,n,hst,hrun',hn1,hn4,hin,hp0,hp1,_⟩:=hrun.step hp hk;have hstep:=fun ty=>ZgY (P:=Tryz.prog) hst (by omega) wr w3.heap.size hK ty;have hown1:=Zi6 hownk hK (i+n);have hK1:=Lib.iterAt_heap wr w3.heap.size s i (i+n) hK;have hb1:=Lib.below_iterAt hbk (k:=w3.heap.size) (by omega) s (i+n);have hsz1:(wr.iterAt w3.heap.size s (i+n)).heap.size=wr.heap.size:=Lib.iterAt_size _ _ _ _;have hpos:=Zda hK;have hcell:=cell_one_new (wr.iterAt w3.heap.size s (i+n)) (.int .i32 p) 21;rw [hsz1] at hcell;have hw4:w.heap.size+1≤((wr.iterAt w3.heap.size s (i+n)).alloc (.cells #[.int .i32 p] 21)).heap.size:=by simp;omega
    have hnext:Hid ((ps.take (k+1)).map (Value.int .i32)=(ps.take k).map (Value.int .i32)++[.int .i32 p]):=by
     rw [hst.snoc hk,List.map_append];rfl
    have hK2:=Below.heap_alloc (wr.iterAt w3.heap.size s (i+n)) (.cells #[.int .i32 p] 21) w3.heap.size (by omega);rw [hK1] at hK2;clear hown';go_wp2_with (at_builtin;refine wpList_append_own _ rfl _ _ 23 rfl (w.heap.size+1) 21 i0 (.int .i32 0) 1 4 Tryz.underlying23 hi iz0 iz1 iz2 rfl (by decide) u6 k _ rfl (hown1.alloc _) ⟨wr.heap.size,0,none⟩ 1 1 [.int .i32 p] rfl rfl hcell (by intro u hu;simp at hu;subst hu;rfl) (by unfold maxLen;omega) (by omega) hw4 ?_;intro v' w5 hown5 hg5 _)
    have hK5:=(hg5.block w3.heap.size (by simp;omega) (ZiL hownk hK)).trans hK2;rw [←hnext.out] at hown5;have hb5:=Z7 (hb1.alloc (by omega) (.cells #[.int .i32 p] 21)) (hown1.alloc _) hg5 hw4 (Nat.le_refl _);refine⟨⟨k+1,i+n,hrun',hK5,hown5,hb5⟩,?_⟩;rw [hpos,Zda hK5];omega
  · have hk2:k=ps.length:=by omega
    subst hk2;obtain⟨hi,_,hie⟩:=hrun.end_ hp;have hend:=fun ty=>Lib.run_next_end_at (P:=Tryz.prog) wr w3.heap.size s i ty hK (by simp at hie;omega);obtain⟨hc0,hc1,hf0,hf1,hlt1⟩:=ZaD hbk;rw [List.take_length] at hownk;clear hown';go_wp2_with fail
    obtain⟨A,c,hv,hcap,_,_⟩:=Zar.of_own hownk;have hownF:=ownsRow_setCell_below (ownsRow_setCell_below hownk (a:=⟨w.heap.size,0,none⟩) (Nat.lt_succ_self _) (.int .i64 0)) (a:=⟨w.heap.size,1,none⟩) (Nat.lt_succ_self _) (.int .i64 0);subst hv;obtain⟨A',c',hv',_,_,hnF⟩:=Zar.of_own hownF;simp only [Value.slice.injEq] at hv';obtain⟨rfl,_,_⟩:=hv';refine bodyPost_ret (v:= .tuple #[.slice A ps.length c,.agg #[.int .i64 0,.int .i64 0]]) (by simp [results,Tryz.results285,go_sem,hc0,hc1]) rfl ⟨A,c,rfl,hcap,hnF,fun ad had=>by subst had;have:=(hownF.lt _ rfl).1;exact⟨by omega,Zng hownF,Zui hownF⟩,?_⟩;exact(((((Below.refl _ w).alloc (Nat.le_refl _) _).trans (hbk.mono (by omega))).setCell (Nat.le_refl _) _).setCell (Nat.le_refl _) _)
theorem Zqa (s:ByteArray)(n:Nat)(hg:ZaX s n)(hs:s.size≤35184372088000)(w:World)(hT:Zk w):
 Calls Tryz.prog 285 #[.string s] w fun e w'=>e= .returned (.tuple #[.slice none 0 0,.agg #[.int .i64 2,.int .i64 n]])∧Below w.heap.size w w':=by
 go_enter Tryz.func285,Tryz.ntmps285
 go_wp2_with (go_at_call 221;refine(Zjo s n hg (by omega) _ (by first|exact hT|exact ZN hT _)).mono ?_;rintro e w1 ⟨rfl,hb1⟩;have hz1:=Zac hb1;have HB1:=hb1.mono (B':=w.heap.size+1) (by simp);obtain⟨hc0,hc1,hf0,hf1,hlt1⟩:=ZaD HB1)
 refine(Zcy _ _ _).mono ?_;rintro e w2 ⟨rfl,hb2⟩;have hz2:=Zac hb2;have HB2:=(HB1.alloc (by omega) _).trans (hb2.mono (by simp;omega));have hbx:=ZaD (hb2.mono (by simp));obtain⟨hd0,hd1,he0,he1,hlt2⟩:=hbx;clear hc0 hc1 hf0 hf1;obtain⟨hc0,hc1,hf0,hf1,hlt3⟩:=ZaD HB2;go_wp2_with fail
 go_region
 go_wp2_with fail
 refine bodyPost_ret (v:= .tuple #[.slice none 0 0,.agg #[.int .i64 2,.int .i64 n]]) (by simp [results,Tryz.results285,go_sem,hc0,hc1]) rfl ⟨rfl,?_⟩;exact(((((Below.refl _ w).alloc (Nat.le_refl _) _).trans (HB2.mono (by omega))).setCell (Nat.le_refl _) _).setCell (Nat.le_refl _) _).drew
def Zcm (n p:Int):Int×Int:=if Zi p=true∧((Lib.encodeRune p).length:Int)=n then(p,n) else(0,0)
def atZ (c m1 m2 m3:Int):Int×Int:=
 if c<128 then(c,1)
 else if 192≤c∧c<224 then(if m1<0 then(0,0) else Zcm 2 ((c - 192)*64+m1))
 else if 224≤c∧c<240 then(if m1<0 then(0,0) else if m2<0 then(0,0) else Zcm 3 (((c - 224)*64+m1)*64+m2))
 else if 240≤c∧c<248 then(if m1<0 then(0,0) else if m2<0 then(0,0) else if m3<0 then(0,0) else Zcm 4 ((((c - 240)*64+m1)*64+m2)*64+m3))
 else(0,0)
def ZdM (R:Int×Int)(w:World)(e:Ending)(w':World):Prop:=e= .returned (.tuple #[.int .i32 R.1,.int .i64 R.2])∧Below w.heap.size w w'
theorem Zgt {a b:Int} {R:Int×Int} {w w':World} (h:R=(a,b))(hb:Below w.heap.size w w'):ZdM R w (.returned (.tuple #[.int .i32 a,.int .i64 b])) w':=by
 subst h;exact⟨rfl,hb⟩
theorem ZeW (l:List UInt8)(i:Nat): -1≤ZB l i∧ZB l i<64:=by
 unfold ZB;split
 · omega
 · split<;>omega
theorem At_2 (s:ByteArray)(i:Nat)(hi:i<s.size)(hz:s.size≤140737488355328)(c m1 m2 m3:Int)(hc:(s[i]).toNat=c)(h1:ZB s.data.toList (i+1)=m1)(hc2:192≤c∧c<224)(w:World):
 Calls Tryz.prog 14 #[.string s,.int .i64 i] w (ZdM (atZ c m1 m2 m3) w):=by
 have b1:=ZeW s.data.toList (i+1);rw [h1] at b1;go_enter Tryz.func14,Tryz.ntmps14
 go_wp2_with fail
 refine wp_loop_rounds 4 ?_;rw [rounds_succ];go_wp2_with (first|(go_at_call 32;refine(Zcc _ _ (by omega) _).mono ?_;rintro e w' ⟨rfl,rfl⟩)|(go_at_call 33;refine(Zb2 _ _).mono ?_;rintro e w' ⟨rfl,rfl⟩)|(go_at_call 34;refine(Zb1 (by assumption) _).mono ?_;rintro e w' ⟨rfl,hb⟩))
 all_goals try (rw [rounds_succ];go_wp2_with (first|(go_at_call 32;refine(Zcc _ _ (by omega) _).mono ?_;rintro e w' ⟨rfl,rfl⟩)|(go_at_call 33;refine(Zb2 _ _).mono ?_;rintro e w' ⟨rfl,rfl⟩)|(go_at_call 34;refine(Zb1 (by assumption) _).mono ?_;rintro e w' ⟨rfl,hb⟩)))
 all_goals try (rw [rounds_succ];go_wp2_with (first|(go_at_call 32;refine(Zcc _ _ (by omega) _).mono ?_;rintro e w' ⟨rfl,rfl⟩)|(go_at_call 33;refine(Zb2 _ _).mono ?_;rintro e w' ⟨rfl,rfl⟩)|(go_at_call 34;refine(Zb1 (by assumption) _).mono ?_;rintro e w' ⟨rfl,hb⟩)))
 all_goals try (rw [rounds_succ];go_wp2_with (first|(go_at_call 32;refine(Zcc _ _ (by omega) _).mono ?_;rintro e w' ⟨rfl,rfl⟩)|(go_at_call 33;refine(Zb2 _ _).mono ?_;rintro e w' ⟨rfl,rfl⟩)|(go_at_call 34;refine(Zb1 (by assumption) _).mono ?_;rintro e w' ⟨rfl,hb⟩)))
 all_goals
  go_ret2
  refine Zgt ?_ (by first|exact Below.refl _ _|assumption);unfold atZ Zcm
  repeat' split
  all_goals first|rfl|(exfalso;omega)|(simp_all;done)
theorem At_3 (s:ByteArray)(i:Nat)(hi:i<s.size)(hz:s.size≤140737488355328)(c m1 m2 m3:Int)(hc:(s[i]).toNat=c)(h1:ZB s.data.toList (i+1)=m1)(h2:ZB s.data.toList (i+2)=m2)(hc2:224≤c∧c<240)(w:World):
 Calls Tryz.prog 14 #[.string s,.int .i64 i] w (ZdM (atZ c m1 m2 m3) w):=by
 have b1:=ZeW s.data.toList (i+1);rw [h1] at b1;have b2:=ZeW s.data.toList (i+2);rw [h2] at b2;go_enter Tryz.func14,Tryz.ntmps14
 go_wp2_with fail
 refine wp_loop_rounds 4 ?_;rw [rounds_succ];go_wp2_with (first|(go_at_call 32;refine(Zcc _ _ (by omega) _).mono ?_;rintro e w' ⟨rfl,rfl⟩)|(go_at_call 33;refine(Zb2 _ _).mono ?_;rintro e w' ⟨rfl,rfl⟩)|(go_at_call 34;refine(Zb1 (by assumption) _).mono ?_;rintro e w' ⟨rfl,hb⟩))
 all_goals try (rw [rounds_succ];go_wp2_with (first|(go_at_call 32;refine(Zcc _ _ (by omega) _).mono ?_;rintro e w' ⟨rfl,rfl⟩)|(go_at_call 33;refine(Zb2 _ _).mono ?_;rintro e w' ⟨rfl,rfl⟩)|(go_at_call 34;refine(Zb1 (by assumption) _).mono ?_;rintro e w' ⟨rfl,hb⟩)))
 all_goals try (rw [rounds_succ];go_wp2_with (first|(go_at_call 32;refine(Zcc _ _ (by omega) _).mono ?_;rintro e w' ⟨rfl,rfl⟩)|(go_at_call 33;refine(Zb2 _ _).mono ?_;rintro e w' ⟨rfl,rfl⟩)|(go_at_call 34;refine(Zb1 (by assumption) _).mono ?_;rintro e w' ⟨rfl,hb⟩)))
 all_goals try (rw [rounds_succ];go_wp2_with (first|(go_at_call 32;refine(Zcc _ _ (by omega) _).mono ?_;rintro e w' ⟨rfl,rfl⟩)|(go_at_call 33;refine(Zb2 _ _).mono ?_;rintro e w' ⟨rfl,rfl⟩)|(go_at_call 34;refine(Zb1 (by assumption) _).mono ?_;rintro e w' ⟨rfl,hb⟩)))
 all_goals
  go_ret2
  refine Zgt ?_ (by first|exact Below.refl _ _|assumption);unfold atZ Zcm
  repeat' split
  all_goals first|rfl|(exfalso;omega)|(simp_all;done)
theorem At_4 (s:ByteArray)(i:Nat)(hi:i<s.size)(hz:s.size≤140737488355328)(c m1 m2 m3:Int)(hc:(s[i]).toNat=c)(h1:ZB s.data.toList (i+1)=m1)(h2:ZB s.data.toList (i+2)=m2)(h3:ZB s.data.toList (i+3)=m3)(hc2:240≤c∧c<248)(w:World):
 Calls Tryz.prog 14 #[.string s,.int .i64 i] w (ZdM (atZ c m1 m2 m3) w):=by
 have b1:=ZeW s.data.toList (i+1);rw [h1] at b1;have b2:=ZeW s.data.toList (i+2);rw [h2] at b2;have b3:=ZeW s.data.toList (i+3);rw [h3] at b3;go_enter Tryz.func14,Tryz.ntmps14
 go_wp2_with fail
 refine wp_loop_rounds 4 ?_;rw [rounds_succ];go_wp2_with (first|(go_at_call 32;refine(Zcc _ _ (by omega) _).mono ?_;rintro e w' ⟨rfl,rfl⟩)|(go_at_call 33;refine(Zb2 _ _).mono ?_;rintro e w' ⟨rfl,rfl⟩)|(go_at_call 34;refine(Zb1 (by assumption) _).mono ?_;rintro e w' ⟨rfl,hb⟩))
 all_goals try (rw [rounds_succ];go_wp2_with (first|(go_at_call 32;refine(Zcc _ _ (by omega) _).mono ?_;rintro e w' ⟨rfl,rfl⟩)|(go_at_call 33;refine(Zb2 _ _).mono ?_;rintro e w' ⟨rfl,rfl⟩)|(go_at_call 34;refine(Zb1 (by assumption) _).mono ?_;rintro e w' ⟨rfl,hb⟩)))
 all_goals try (rw [rounds_succ];go_wp2_with (first|(go_at_call 32;refine(Zcc _ _ (by omega) _).mono ?_;rintro e w' ⟨rfl,rfl⟩)|(go_at_call 33;refine(Zb2 _ _).mono ?_;rintro e w' ⟨rfl,rfl⟩)|(go_at_call 34;refine(Zb1 (by assumption) _).mono ?_;rintro e w' ⟨rfl,hb⟩)))
 all_goals try (rw [rounds_succ];go_wp2_with (first|(go_at_call 32;refine(Zcc _ _ (by omega) _).mono ?_;rintro e w' ⟨rfl,rfl⟩)|(go_at_call 33;refine(Zb2 _ _).mono ?_;rintro e w' ⟨rfl,rfl⟩)|(go_at_call 34;refine(Zb1 (by assumption) _).mono ?_;rintro e w' ⟨rfl,hb⟩)))
 all_goals
  go_ret2
  refine Zgt ?_ (by first|exact Below.refl _ _|assumption);unfold atZ Zcm
  repeat' split
  all_goals first|rfl|(exfalso;omega)|(simp_all;done)
theorem At_0 (s:ByteArray)(i:Nat)(hi:i<s.size)(c m1 m2 m3:Int)(hc:(s[i]).toNat=c)(hc2:c<192∨248≤c)(w:World):
 Calls Tryz.prog 14 #[.string s,.int .i64 i] w (ZdM (atZ c m1 m2 m3) w):=by
 have hb:0≤c∧c<256:=by have:=(s[i]).toNat_lt;omega
 go_enter Tryz.func14,Tryz.ntmps14
 go_wp2_with fail
 all_goals
  go_ret2
  refine Zgt ?_ (Below.refl _ _);unfold atZ
  repeat' split
  all_goals first|rfl|(exfalso;omega)
theorem ZoI (s:ByteArray)(i:Nat)(hi:i<s.size)(hz:s.size≤140737488355328)(w:World):
 Calls Tryz.prog 14 #[.string s,.int .i64 i] w (ZdM (atZ (s[i]).toNat (ZB s.data.toList (i+1)) (ZB s.data.toList (i+2)) (ZB s.data.toList (i+3))) w):=by
 by_cases c2:192≤((s[i]).toNat:Int)∧((s[i]).toNat:Int)<224
 · exact At_2 s i hi hz _ _ _ _ rfl rfl c2 w
 by_cases c3:224≤((s[i]).toNat:Int)∧((s[i]).toNat:Int)<240
 · exact At_3 s i hi hz _ _ _ _ rfl rfl rfl c3 w
 by_cases c4:240≤((s[i]).toNat:Int)∧((s[i]).toNat:Int)<248
 · exact At_4 s i hi hz _ _ _ _ rfl rfl rfl rfl c4 w
 · exact At_0 s i hi _ _ _ _ rfl (by omega) w
end Go.Proofs.YtlhllehffkoloaaGreatDoor
