/- Lemmas for a statement on the tops; conditions: as each says. -/
import Derived.Lib.IndexBytes
import Derived.Test.YtlfinljfghhpdaaGreatDoorRows
import Derived.WalkSpells
import Derived.Outline
import Derived.Deep.DeepFit
import Derived.Lib.Index
import Derived.Lib.OthersKept
import Derived.Test.YtlfinljfghhpdaaGreatDoorM1
set_option linter.unusedVariables false
set_option linter.unusedSimpArgs false
set_option maxRecDepth 100000
set_option maxHeartbeats 200000
namespace Go.Proofs.YtlfinljfghhpdaaGreatDoor
open Go Go.RowKit
def Pre (s:ByteArray)(ps:List Int)(r:List UInt8):Prop:=s.data.toList=Zb ps++r∧∀p∈ps,Ze p=true
def Run (ps:List Int)(k i:Nat):Prop:=k≤ps.length∧i=(Zb (ps.take k)).length
theorem Good.pre {s:ByteArray} {ps:List Int} (h:Good s ps):Pre s ps []:=⟨by simpa using h.1,h.2⟩
theorem Zbr.pre {s:ByteArray} {n:Nat} (h:Zbr s n):∃ps r,Pre s ps r∧n=(Zb ps).length∧r≠[]∧ZaF (Zu r):=by
 obtain⟨ps,r,h1,h2,h3,h4,h5⟩:=h;exact⟨ps,r,⟨h1,h2⟩,h3,h4,h5⟩
theorem Run.zero (ps:List Int):Run ps 0 0:=⟨Nat.zero_le _,rfl⟩
theorem Zdo {ps:List Int} {k:Nat} (h:k<ps.length):ps.getD k 0∈ps:=by
 rw [List.getD_eq_getElem?_getD,List.getElem?_eq_getElem h];exact List.getElem_mem h
theorem Zkw {ps:List Int} {k:Nat} (h:k<ps.length):ps.drop k=ps.getD k 0::ps.drop (k+1):=by
 rw [List.drop_eq_getElem_cons h,List.getD_eq_getElem?_getD,List.getElem?_eq_getElem h];rfl
theorem ZbR {ps:List Int} {k:Nat} (h:k<ps.length):ps.take (k+1)=ps.take k++[ps.getD k 0]:=by
 rw [List.take_succ_eq_append_getElem h,List.getD_eq_getElem?_getD,List.getElem?_eq_getElem h];rfl
theorem Run.drop {s:ByteArray} {ps:List Int} {r:List UInt8} {k i:Nat} (hp:Pre s ps r)(h:Run ps k i):s.data.toList.drop i=Zb (ps.drop k)++r:=by
 have e:Zb ps=Zb (ps.take k)++Zb (ps.drop k):=by rw [←ZcK,List.take_append_drop]
 rw [hp.1,e,List.append_assoc,h.2,List.drop_left]
theorem Run.next {ps:List Int} {k i:Nat} (h:Run ps k i)(hk:k<ps.length):Run ps (k+1) (i+(Lib.encodeRune (ps.getD k 0)).length):=
 ⟨hk,by rw [ZbR hk,ZcK,List.length_append,←h.2,ZaG,ZbE,List.append_nil]⟩
theorem Run.head {s:ByteArray} {ps:List Int} {r:List UInt8} {k i:Nat} (hp:Pre s ps r)(h:Run ps k i)(hk:k<ps.length):
 ∃t,s.data.toList.drop i=Lib.encodeRune (ps.getD k 0)++t∧Ze (ps.getD k 0)=true∧i<s.size∧i+(Lib.encodeRune (ps.getD k 0)).length≤s.size:=by
 have hd:=h.drop hp;rw [Zkw hk,ZaG,List.append_assoc] at hd;have hl:=congrArg List.length hd;rw [List.length_drop,List.length_append] at hl;have h1:=(Zbx (ps.getD k 0)).1;have hs:s.data.toList.length=s.size:=by simp
 rw [hs] at hl;exact⟨_,hd,hp.2 _ (Zdo hk),by omega,by omega⟩
theorem Run.end_ {s:ByteArray} {ps:List Int} {r:List UInt8} {i:Nat} (hp:Pre s ps r)(h:Run ps ps.length i):i=(Zb ps).length∧s.data.toList.drop i=r∧i+r.length=s.size:=by
 have hd:=h.drop hp;rw [List.drop_length,ZbE,List.nil_append] at hd;have h2:=h.2;rw [List.take_length] at h2;refine⟨h2,hd,?_⟩;have hl:=congrArg List.length hp.1;rw [List.length_append] at hl;have hs:s.data.toList.length=s.size:=by simp
 omega
theorem Run.le {s:ByteArray} {ps:List Int} {r:List UInt8} {k i:Nat} (hp:Pre s ps r)(h:Run ps k i):k≤i∧i≤s.size∧k≤ps.length:=by
 have h1:=(Zah (ps.take k)).1;rw [List.length_take,←h.2] at h1;have h0:=h.1;have hl:=congrArg List.length hp.1;have e:Zb ps=Zb (ps.take k)++Zb (ps.drop k):=by rw [←ZcK,List.take_append_drop]
 rw [e,List.length_append,List.length_append,←h.2] at hl;have hs:s.data.toList.length=s.size:=by simp
 omega
theorem Zrq (s:ByteArray)(i:Nat):(s.extract i s.size).data.toList=s.data.toList.drop i:=Lib.extract_to_end s i
theorem Zkv (s:ByteArray)(i:Nat)(h:i<s.size):Lib.decodeGo (s.extract i s.size)=Zu (s.data.toList.drop i):=by
 have e:=Zrq s i;have hz:(s.extract i s.size).size=s.size - i:=by
  have h2:=congrArg List.length e;have h3:(s.extract i s.size).data.toList.length=(s.extract i s.size).size:=by simp
  have h4:s.data.toList.length=s.size:=by simp
  rw [h3,List.length_drop,h4] at h2;exact h2
 unfold Lib.decodeGo;rw [if_neg (by omega),Zhd,e,List.drop_zero]
def Step (s:ByteArray)(ps:List Int)(k i:Nat)(p:Int)(n:Nat):Prop:=
 (∃t,s.data.toList.drop i=Lib.encodeRune p++t)∧n=(Lib.encodeRune p).length∧p=ps.getD k 0∧Ze p=true
theorem Run.step {s:ByteArray} {ps:List Int} {r:List UInt8} {k i:Nat} (hp:Pre s ps r)(h:Run ps k i)(hk:k<ps.length):
 ∃(p:Int) (n:Nat),Step s ps k i p n∧Run ps (k+1) (i+n)∧1≤n∧n≤4∧i+n≤s.size∧0≤p∧p≤1114111∧((p==65533)=false∨(p=65533∧2≤n)):=by
 obtain⟨t,hd,hs,hi,hi2⟩:=h.head hp hk;have h4:=Z1.1 hs;have h5:=Zbx (ps.getD k 0);refine⟨_,_,⟨⟨t,hd⟩,rfl,rfl,hs⟩,h.next hk,h5.1,h5.2,hi2,h4.1,h4.2.1,?_⟩;by_cases h6:ps.getD k 0=65533
 · right
   rw [h6];exact⟨rfl,by decide⟩
 · left
   simpa using h6
theorem Step.snoc {s:ByteArray} {ps:List Int} {k i n:Nat} {p:Int} (h:Step s ps k i p n)(hk:k<ps.length):ps.take (k+1)=ps.take k++[p]:=by
 rw [ZbR hk,h.2.2.1]
def Zj (w:World):Prop:=Lib.Utf8Tabs 1 2 w
theorem Zgo (e a:Int)(w:World):
 Calls Tryz.prog 10 #[.agg #[.int .i64 e,.int .i64 a]] w fun x w'=>x= .returned (.bool (e !=0))∧Below w.heap.size w w':=by
 go_enter Tryz.func10,Tryz.ntmps10
 go_wp2
 go_ret
 exact⟨rfl,(Below.refl _ _).alloc (Nat.le_refl _) _⟩
theorem Zoe (s:ByteArray)(i:Nat)(p:Int)(t:List UInt8)(hd:s.data.toList.drop i=Lib.encodeRune p++t)(hp:Ze p=true)(w:World)(hT:Zj w):
 Calls Tryz.prog 287 #[.string (s.extract i s.size)] w fun e w'=>e= .returned (.tuple #[.int .i32 p,.int .i64 (Lib.encodeRune p).length])∧Below w.heap.size w w':=by
 have hi:i<s.size:=by
  have h1:=congrArg List.length hd;have h2:=(Zbx p).1;have h4:s.data.toList.length=s.size:=by simp
  rw [List.length_drop,List.length_append,h4] at h1;omega
 have h:=Tryz.utf8_DecodeRuneInString (s.extract i s.size) w hT;rw [Zkv s i hi,hd,ZdR hp] at h;have e:((p.toNat:Nat):Int)=p:=by have:=Z1.1 hp;omega
 simp only [e] at h;exact h
theorem Zod (s:ByteArray)(i:Nat)(hi:i<s.size)(hd:ZaF (Zu (s.data.toList.drop i)))(w:World)(hT:Zj w):
 Calls Tryz.prog 287 #[.string (s.extract i s.size)] w fun e w'=>(∃n:Nat,n≤1∧e= .returned (.tuple #[.int .i32 65533,.int .i64 n]))∧Below w.heap.size w w':=by
 have h:=Tryz.utf8_DecodeRuneInString (s.extract i s.size) w hT;rw [Zkv s i hi] at h;refine h.mono fun e w' ⟨he,hb⟩=>⟨⟨_,hd.2,?_⟩,hb⟩
 rw [he,hd.1];rfl
theorem Zaz {w w':World} (h:Zj w){B:Nat} (hb:Below B w w')(hB:w.heap.size≤B):Zj w':=Utf8Tabs_below h (hb.mono hB)
def ZpF (ps:List Int)(w0:World)(n at_:Value)(wr:World):Prop:=
 ∃k i:Nat,n= .int .i64 k∧at_= .int .i64 i∧Run ps k i∧Below (w0.heap.size+1) (w0.alloc (.cells #[.int .i64 0,.int .i64 0] 33)) wr
theorem Zof {s:ByteArray} {ps:List Int} {k i n:Nat} {p:Int} (h:Step s ps k i p n)(w:World)(hT:Zj w):
 Calls Tryz.prog 287 #[.string (s.extract i s.size)] w fun e w'=>e= .returned (.tuple #[.int .i32 p,.int .i64 n])∧Below w.heap.size w w':=by
 obtain⟨⟨t,ht⟩,hn,_,hs⟩:=h;subst hn;exact Zoe s i p t ht hs w hT
theorem ZmX (s:ByteArray)(ps:List Int)(r:List UInt8)(hp:Pre s ps r)(hr:r=[]∨ZaF (Zu r))(hs:s.size≤140737488355328)(w:World)(hT:Zj w):
 Calls Tryz.prog 238 #[.string s] w fun e w'=>
  ((r=[]∧e= .returned (.tuple #[.int .i64 ps.length,.agg #[.int .i64 0,.int .i64 0]]))∨(r≠[]∧e= .returned (.tuple #[.int .i64 0,.agg #[.int .i64 2,.int .i64 (Zb ps).length]])))∧Below w.heap.size w w':=by
 go_enter Tryz.func238,Tryz.ntmps238
 go_wp2_with fail
 go_loopw [4,5] (fun n i wr=>ZpF ps w n i wr) (fun _ i _=>s.size - (intOf i).toNat)
 case atStart=>exact⟨0,0,rfl,rfl,Run.zero _,Below.refl _ _⟩
 case round=>
  obtain⟨k,i,rfl,rfl,hrun,hb⟩:=hrel;have hle:=hrun.le hp;obtain⟨hc0,hc1,hf0,hf1,hsz⟩:=Zbu hb;have hTr:Zj wr:=Zaz (Zaz hT (Below.alloc (Below.refl (w.heap.size) w) (Nat.le_refl _) _) (Nat.le_refl _)) hb (by simp);by_cases hk:k<ps.length
  · obtain⟨p,n,hst,hrun',hn1,hn4,hin,_,_,hq⟩:=hrun.step hp hk;rcases hq with hq|⟨rfl,hq⟩
    all_goals
     go_wp2_with (go_at_call 287;refine(Zof hst _ hTr).mono ?_;rintro e w' ⟨rfl,hb'⟩)
     go_roundw
     case rel=>exact⟨k+1,i+n,by go_num,by go_num,hrun',hb.trans (hb'.mono (by omega))⟩
     case measure=>simp [intOf];omega
  · have hk2:k=ps.length:=by omega
    subst hk2;obtain⟨hi,hdr,hir⟩:=hrun.end_ hp;by_cases hr0:r=[]
    · have hge:¬i<s.size:=by rw [hr0] at hir;simp at hir;omega
      clear hdr hir hi;go_wp2_with fail
      refine bodyPost_ret (v:= .tuple #[.int .i64 ps.length,.agg #[.int .i64 0,.int .i64 0]]) (by simp [results,Tryz.results238,go_sem,hc0,hc1]) rfl ⟨.inl ⟨hr0,rfl⟩,?_⟩;exact(((((Below.refl _ w).alloc (Nat.le_refl _) _).trans (hb.mono (by omega))).setCell (Nat.le_refl _) _).setCell (Nat.le_refl _) _)
    · have hlt:i<s.size:=by have:=List.length_pos_iff.2 hr0;omega
      have he:ZaF (Zu (s.data.toList.drop i)):=by rw [hdr];exact hr.resolve_left hr0
      have Hi:=Lib.hid hi;clear hdr hir hi;go_wp2_with (go_at_call 287;refine(Zod s i hlt he _ hTr).mono ?_;rintro e w' ⟨⟨n,hn,rfl⟩,hb'⟩;have hb2:=hb'.mono (B':=w.heap.size+1) (by omega);have hb3:=hb.trans hb2;obtain⟨hc0',hc1',hf0',hf1',hsz'⟩:=Zbu hb3)
      rw [Hi.out];refine bodyPost_ret (v:= .tuple #[.int .i64 0,.agg #[.int .i64 2,.int .i64 (Zb ps).length]]) (by simp [results,Tryz.results238,go_sem,hc0',hc1']) rfl ⟨.inr ⟨hr0,rfl⟩,?_⟩;exact(((((Below.refl _ w).alloc (Nat.le_refl _) _).trans (hb3.mono (by omega))).setCell (Nat.le_refl _) _).setCell (Nat.le_refl _) _)
theorem Zil (s:ByteArray)(ps:List Int)(hg:Good s ps)(hs:s.size≤140737488355328)(w:World)(hT:Zj w):
 Calls Tryz.prog 238 #[.string s] w fun e w'=>e= .returned (.tuple #[.int .i64 ps.length,.agg #[.int .i64 0,.int .i64 0]])∧Below w.heap.size w w':=
 (ZmX s ps [] hg.pre (.inl rfl) hs w hT).mono fun _ _ ⟨h,hb⟩=>by
  rcases h with⟨_,h⟩|⟨h,_⟩
  · exact⟨h,hb⟩
  · exact absurd rfl h
theorem ZmW (s:ByteArray)(n:Nat)(hg:Zbr s n)(hs:s.size≤140737488355328)(w:World)(hT:Zj w):
 Calls Tryz.prog 238 #[.string s] w fun e w'=>e= .returned (.tuple #[.int .i64 0,.agg #[.int .i64 2,.int .i64 n]])∧Below w.heap.size w w':=by
 obtain⟨ps,r,hp,rfl,hr,he⟩:=hg.pre;refine(ZmX s ps r hp (.inr he) hs w hT).mono fun _ _ ⟨h,hb⟩=> ?_;rcases h with⟨h,_⟩|⟨_,h⟩
 · exact absurd h hr
 · exact⟨h,hb⟩
theorem ZN {w:World} (h:Zj w)(o:Obj):Zj (w.alloc o):=Zaz h ((Below.refl _ _).alloc (Nat.le_refl _) _) (Nat.le_refl _)
theorem Zjd (s:ByteArray)(ps:List Int)(hg:Good s ps)(hs:s.size≤140737488355328)(w:World)(hT:Zj w):
 Calls Tryz.prog 158 #[.string s] w fun e w'=>e= .returned (.agg #[.int .i64 0,.int .i64 0])∧Below w.heap.size w w':=by
 go_enter Tryz.func158,Tryz.ntmps158
 go_wp2_with (go_at_call 238;refine(Zil s ps hg hs _ (by first|exact hT|exact ZN hT _)).mono ?_;rintro e w1 ⟨rfl,hb1⟩;have hz0:=hb1.size;try (obtain⟨hc0,hc1,hf0,hf1,hz1⟩:=Zbu (hb1.mono (by simp))))
 refine bodyPost_ret (v:= .agg #[.int .i64 0,.int .i64 0]) (by simp [results,Tryz.results158,go_sem,hc0,hc1,hz1]) rfl ⟨rfl,?_⟩
 (repeat (first|exact Zf hb1|exact hb1|refine Below.alloc ?_ (by first|exact Nat.le_refl _|exact hz0|(simp;done)|(simp;omega)) _|refine Below.setCell ?_ (by first|exact Nat.le_refl _|exact hz0|(simp;done)|(simp;omega)) _))
theorem ZnZ (s:ByteArray)(n:Nat)(hg:Zbr s n)(hs:s.size≤140737488355328)(w:World)(hT:Zj w):
 Calls Tryz.prog 158 #[.string s] w fun e w'=>e= .returned (.agg #[.int .i64 2,.int .i64 n])∧Below w.heap.size w w':=by
 go_enter Tryz.func158,Tryz.ntmps158
 go_wp2_with (go_at_call 238;refine(ZmW s n hg hs _ (by first|exact hT|exact ZN hT _)).mono ?_;rintro e w1 ⟨rfl,hb1⟩;have hz0:=hb1.size;try (obtain⟨hc0,hc1,hf0,hf1,hz1⟩:=Zbu (hb1.mono (by simp))))
 refine bodyPost_ret (v:= .agg #[.int .i64 2,.int .i64 n]) (by simp [results,Tryz.results158,go_sem,hc0,hc1,hz1]) rfl ⟨rfl,?_⟩
 (repeat (first|exact Zf hb1|exact hb1|refine Below.alloc ?_ (by first|exact Nat.le_refl _|exact hz0|(simp;done)|(simp;omega)) _|refine Below.setCell ?_ (by first|exact Nat.le_refl _|exact hz0|(simp;done)|(simp;omega)) _))
theorem Zjf (s:ByteArray)(ps:List Int)(hg:Good s ps)(hs:s.size≤140737488355328)(w:World)(hT:Zj w):
 Calls Tryz.prog 366 #[.string s] w fun e w'=>e= .returned (.int .i64 ps.length)∧Below w.heap.size w w':=by
 go_enter Tryz.func366,Tryz.ntmps366
 go_wp2_with (go_at_call 238;refine(Zil s ps hg hs _ (by first|exact hT|exact ZN hT _)).mono ?_;rintro e w1 ⟨rfl,hb1⟩;have hz0:=hb1.size;try (obtain⟨hc0,hc1,hf0,hf1,hz1⟩:=Zbu (hb1.mono (by simp))))
 go_ret
 exact⟨rfl,by(repeat (first|exact Zf hb1|exact hb1|refine Below.alloc ?_ (by first|exact Nat.le_refl _|exact hz0|(simp;done)|(simp;omega)) _|refine Below.setCell ?_ (by first|exact Nat.le_refl _|exact hz0|(simp;done)|(simp;omega)) _))⟩
theorem Zn5 (s:ByteArray)(n:Nat)(hg:Zbr s n)(hs:s.size≤140737488355328)(w:World)(hT:Zj w):
 Calls Tryz.prog 366 #[.string s] w fun e w'=>e= .returned (.int .i64 0)∧Below w.heap.size w w':=by
 go_enter Tryz.func366,Tryz.ntmps366
 go_wp2_with (go_at_call 238;refine(ZmW s n hg hs _ (by first|exact hT|exact ZN hT _)).mono ?_;rintro e w1 ⟨rfl,hb1⟩;have hz0:=hb1.size;try (obtain⟨hc0,hc1,hf0,hf1,hz1⟩:=Zbu (hb1.mono (by simp))))
 go_ret
 exact⟨rfl,by(repeat (first|exact Zf hb1|exact hb1|refine Below.alloc ?_ (by first|exact Nat.le_refl _|exact hz0|(simp;done)|(simp;omega)) _|refine Below.setCell ?_ (by first|exact Nat.le_refl _|exact hz0|(simp;done)|(simp;omega)) _))⟩
end Go.Proofs.YtlfinljfghhpdaaGreatDoor
namespace Go.Proofs.YtlfinljfghhpdaaGreatDoor
open Go
def Zce (n:Int):UInt8:=if n<10 then(48+n).toNat.toUInt8 else(55+n).toNat.toUInt8
def Zbv (p:Int):List UInt8:=[Zce (p / 4096),Zce (p / 256 % 16),Zce (p / 16 % 16),Zce (p % 16),32]
def Zcf (ps:List Int):List UInt8:=ps.flatMap Zbv
def ZjS (ps:List Int):Prop:=∀p∈ps,0≤p∧p≤65535
def Zq7:List UInt8:=[48,49,50,51,52,53,54,55,56,57,65,66,67,68,69,70]
theorem ZtU {n:Int} (h0:0≤n)(h1:n<16):n=0∨n=1∨n=2∨n=3∨n=4∨n=5∨n=6∨n=7∨n=8∨n=9∨n=10∨n=11∨n=12∨n=13∨n=14∨n=15:=by omega
theorem Zle {n:Int} (h0:0≤n)(h1:n<16):Lib.indexByte Zq7 (Zce n)=n:=by
 rcases ZtU h0 h1 with rfl|rfl|rfl|rfl|rfl|rfl|rfl|rfl|rfl|rfl|rfl|rfl|rfl|rfl|rfl|rfl<;>decide
theorem Zhy (p:Int)(ps:List Int):Zcf (p::ps)=Zbv p++Zcf ps:=rfl
theorem Zlg (ps:List Int):(Zcf ps).length=5*ps.length:=by
 induction ps with
 |nil=>rfl
 |cons p ps ih=>rw [Zhy,List.length_append,ih,List.length_cons];simp [Zbv];omega
theorem Zlf (ps:List Int)(k j:Nat)(hk:k<ps.length)(hj:j<5):(Zcf ps)[5*k+j]? =(Zbv (ps.getD k 0))[j]?:=by
 induction ps generalizing k with
 |nil=>simp at hk
 |cons p ps ih=>
  rw [Zhy];cases k with
  |zero=>rw [List.getElem?_append_left (by simp [Zbv];omega)];simp
  |succ k=>
   rw [List.getElem?_append_right (by simp [Zbv];omega)];have e:5*(k+1)+j - (Zbv p).length=5*k+j:=by simp [Zbv];omega
   rw [e,ih k (by simpa using hk)];simp
def fnd:List Int→Int→Int
 |[],_=> -1
 |q::l,p=>if q=p then 0 else if fnd l p= -1 then -1 else fnd l p+1
theorem ZkZ (l:List Int)(p:Int): -1≤fnd l p:=by
 induction l with
 |nil=>simp [fnd]
 |cons q l ih=>unfold fnd;split; · decide
               split<;>omega
theorem Zk0 {l:List Int} {p:Int}:fnd l p= -1↔p∉l:=by
 induction l with
 |nil=>simp [fnd]
 |cons q l ih=>
  have:=ZkZ l p;unfold fnd;by_cases h:q=p
  · subst h;simp
  · have h':p≠q:=fun e=>h e.symm;rw [if_neg h];by_cases h2:fnd l p= -1
    · rw [if_pos h2];simp [h',ih.1 h2]
    · rw [if_neg h2];have:p∈l:=Classical.byContradiction fun hn=>h2 (ih.2 hn);simp [this];omega
theorem Zke {p:Int} (h:0≤p∧p≤65535):(0≤p / 4096∧p / 4096<16)∧(0≤p / 256 % 16∧p / 256 % 16<16)∧(0≤p / 16 % 16∧p / 16 % 16<16)∧(0≤p % 16∧p % 16<16):=by omega
end Go.Proofs.YtlfinljfghhpdaaGreatDoor
namespace Go.Proofs.YtlfinljfghhpdaaGreatDoor
open Go Go.RowKit
theorem ZtG {p:Int} (h:Ze p=true):0≤p∧p≤1114111∧(p<55296∨57343<p):=Z1.1 h
theorem Zem (p:Int)(w:World):
 Calls Tryz.prog 321 #[.int .i32 p] w fun e w'=>e= .returned (.bool (Ze p))∧w=w':=by
 go_enter Tryz.func321,Tryz.ntmps321
 go_wp2
 all_goals (go_ret;exact⟨Zd9 (by rw [Bool.eq_iff_iff,Z1];simp;try omega),rfl⟩)
theorem ZbI (p:Int)(w:World):
 Calls Tryz.prog 31 #[.int .i32 p] w fun e w'=>e= .returned (.bool (Ze p))∧w=w':=by
 go_enter Tryz.func31,Tryz.ntmps31
 go_wp2
 all_goals (go_ret;exact⟨Zd9 (by rw [Bool.eq_iff_iff,Z1];simp;try omega),rfl⟩)
theorem Za7 {p:Int} (h:Ze p=true)(w:World):
 Calls Tryz.prog 23 #[.int .i32 p] w fun e w'=>e= .returned (.string ⟨(Lib.encodeRune p).toArray⟩)∧Below w.heap.size w w':=by
 have k1:=Zg6 (P:=Tryz.prog) 79 9 5 Tryz.underlying79 Tryz.underlying5 Tryz.underlying9;have k2:=ZcA (P:=Tryz.prog) 79 9 5 Tryz.underlying79 Tryz.underlying5 Tryz.underlying9;have k3:=conv3 (P:=Tryz.prog) 79 9 5 Tryz.underlying79 Tryz.underlying5 Tryz.underlying9;have k4:=conv4 (P:=Tryz.prog) 79 9 5 Tryz.underlying79 Tryz.underlying5 Tryz.underlying9;have H:=Lib.hid (Zt7 p);have D:=Lib.hid (Zdn h);have hp:=ZtG h;obtain⟨g0,g1,_⟩:=hp;clear h;go_enter Tryz.func23,Tryz.ntmps23
 go_wp2
 all_goals go_ret
 all_goals
  refine⟨Zth ?_,(Below.refl _ _).alloc (Nat.le_refl _) _⟩;rw [←H.out]
  first
   |rw [Lib.encodeRuneZ_one (by omega) (by omega)]
   |rw [Lib.encodeRuneZ_two (by omega) (by omega)]
   |rw [Lib.encodeRuneZ_three (by omega)]
   |rw [Lib.encodeRuneZ_four (by omega) (by omega)]
def Zw (l:List UInt8)(i:Nat):Int:=if l.length≤i then -1 else if(l.getD i 0).toNat<128∨191<(l.getD i 0).toNat then -1 else(l.getD i 0).toNat - 128
theorem Zht (s:ByteArray)(i:Nat)(h:i<s.size):s.data.toList.getD i 0=s[i]:=by
 have h2:i<s.data.toList.length:=by simpa using h
 simp [List.getD,List.getElem?_eq_getElem h2];rfl
theorem ZbP (s:ByteArray)(i:Int)(h0:0≤i)(w:World):
 Calls Tryz.prog 30 #[.string s,.int .i64 i] w fun e w'=>e= .returned (.int .i32 (Zw s.data.toList i.toNat))∧w=w':=by
 obtain⟨k,rfl⟩:=Int.eq_ofNat_of_zero_le h0;rw [Int.toNat_natCast];by_cases hk:k<s.size
 · have hg:=Lib.hid (Zht s k hk);have hl:Hid (s.data.toList.length=s.size):=by simp [Hid]
   have hb:=(s[k]).toNat_lt;go_enter Tryz.func30,Tryz.ntmps30
   go_wp2
   all_goals go_ret
   all_goals
    refine⟨Za4 ?_,rfl⟩;unfold Zw;rw [hg.out,hl.out,if_neg (by omega)]
    first|rw [if_pos (by omega)]|rw [if_neg (by omega)]
 · have hl:Hid (s.data.toList.length=s.size):=by simp [Hid]
   go_enter Tryz.func30,Tryz.ntmps30
   go_wp2
   go_ret
   refine⟨Za4 ?_,rfl⟩;unfold Zw;rw [hl.out,if_pos (by omega)]
theorem ZtB {p:Int} (h:Ze p=true):Lib.runeLen p=(Lib.encodeRune p).length:=by
 unfold Lib.runeLen;rcases Zdn h with⟨h0,h1⟩|⟨h0,h1⟩|h3|⟨h0,h1⟩
 · rw [ZbY h0 h1];simp only [List.length_cons,List.length_nil];repeat' split
   all_goals omega
 · rw [ZcE h0 h1];simp only [List.length_cons,List.length_nil];repeat' split
   all_goals omega
 · rw [ZcD h3];simp only [List.length_cons,List.length_nil];repeat' split
   all_goals omega
 · rw [ZcC h0 h1];simp only [List.length_cons,List.length_nil];repeat' split
   all_goals omega
theorem ZjK {p:Int} (h:Ze p=true)(w:World):
 Calls Tryz.prog 322 #[.int .i32 p] w fun e w'=>e= .returned (.int .i64 (Lib.encodeRune p).length)∧w=w':=
 (Tryz.utf8_RuneLen p w).mono fun _ _ ⟨he,hw⟩=>⟨by rw [he,ZtB h],hw.symm⟩
def ZH (ps:List Int):List Int:=ps.flatMap Lib.encodeRuneZ
theorem Zgc (a:List Int)(p:Int):ZH (a++[p])=ZH a++Lib.encodeRuneZ p:=by simp [ZH]
theorem Zgb (ps:List Int):(ZH ps).length=(Zb ps).length:=by
 induction ps with
 |nil=>rfl
 |cons p ps ih=>
  rw [ZaG,List.length_append,←ih];simp [ZH,Lib.encodeRune]
theorem Zf8 (ps:List Int):strOfNums (ZH ps)=⟨(Zb ps).toArray⟩:=by
 unfold strOfNums;congr 2
 induction ps with
 |nil=>rfl
 |cons p ps ih=>
  rw [ZaG,←ih];simp [ZH,Lib.encodeRune]
theorem ZA.get {w:World} {B:Nat} {k:IntKind} {A:Option Addr} {zs:List Int} {i:Nat} (h:ZA w B k A zs)(hi:i<zs.length):
 ∃ad p,A=some ad∧ad.block<B∧w.cell? (ad.add i)=some (.int k p)∧Hid (zs.getD i 0=p)∧p∈zs:=by
 obtain⟨ad,e,hb,hc⟩:=h.at_ hi;exact⟨ad,_,e,hb,hc,rfl,Zdo hi⟩
theorem Zka:(Tryz.prog.info? 5).map (fun i=>(i.zero,i.size,i.bytes))=some (some (.int .u8 0),1,1):=by kernel_rfl
theorem ZmT:(Tryz.prog.info? 21).map (fun i=>(i.zero,i.size,i.bytes))=some (some (.int .i32 0),1,4):=by kernel_rfl
def Zp1 (ps:List Int)(w0:World)(b i:Value)(wr:World):Prop:=
 ∃k:Nat,k≤ps.length∧i= .int .i64 k∧wr.ownsRow w0.heap.size 5 1 b (ZH (ps.take k)).length ((ZH (ps.take k)).map (Value.int .u8))∧Below w0.heap.size w0 wr
def ZjR (ps:List Int)(sz i:Value):Prop:=∃k:Nat,k≤ps.length∧i= .int .i64 k∧sz= .int .i64 (Zb (ps.take k)).length
theorem ZjT (A:Option Addr)(c:Nat)(ps:List Int)(w:World){B:Nat} (hn:ZA w B .i32 A ps)(hB:B≤w.heap.size)(hps:∀p∈ps,Ze p=true)(hl:ps.length≤35184372088000):
 Calls Tryz.prog 258 #[.slice A ps.length c] w fun e w'=>e= .returned (.tuple #[.string ⟨(Zb ps).toArray⟩,.bool true])∧Below w.heap.size w w':=by
 obtain⟨i0,hi,hz0,hz1,hz2⟩:=info_parts Zka;go_enter Tryz.func258,Tryz.ntmps258
 go_wp2_with fail
 go_loop [4,12] (fun sz i=>ZjR ps sz i) (fun _ i=>ps.length - (intOf i).toNat)
 case atStart=>exact⟨0,Nat.zero_le _,rfl,rfl⟩
 case round=>
  obtain⟨k,hk,rfl,rfl⟩:=hrel;have h4:=(Zah (ps.take k)).2;rw [List.length_take] at h4;by_cases hlt:k<ps.length
  · obtain⟨ad,p,rfl,_,hc,hp,hm⟩:=hn.get hlt;have hs:=hps p hm;have hlen:=Zbx p;have hnext:Hid ((Zb (ps.take (k+1))).length=(Zb (ps.take k)).length+(Lib.encodeRune p).length):=by
     rw [ZbR hlt,hp.out,ZeR,List.length_append];rfl
    clear hps hn;go_wp2_with (first|(go_at_call 321;refine(Zem _ _).mono ?_;rintro e w' ⟨rfl,rfl⟩)|(go_at_call 322;refine(ZjK hs _).mono ?_;rintro e w' ⟨rfl,rfl⟩))
    go_round
    case rel=>exact⟨k+1,by omega,by go_num,by rw [hnext.out];go_num⟩
    case measure=>simp [intOf];omega
  · have hk2:k=ps.length:=by omega
    subst hk2;rw [List.take_length] at h4⊢;clear hlt;go_wp2_with (at_make;refine wpList_make_own _ rfl _ _ 79 rfl w.heap.size 5 i0 (.int .u8 0) 1 Tryz.underlying79 hi hz0 hz1 .i64 .i64 _ (Zb ps).length rfl rfl rfl (by rw [hz2];omega) (by unfold maxLen;omega) (Nat.le_refl _) ?_;intro w1 hown hgrow)
    have hb1:Below w.heap.size w w1:=(Below.refl _ _).grown hgrow (Nat.le_refl _) (by simp);clear hgrow;go_loopw [7,28] (fun b i wr=>Zp1 ps w b i wr) (fun _ i _=>ps.length - (intOf i).toNat)
    case atStart=>exact⟨0,Nat.zero_le _,rfl,hown,hb1⟩
    case round=>
     obtain⟨k,hk,rfl,hownk,hbk⟩:=hrel;have hnk:=hn.below (hbk.mono hB);have hsz:=hbk.size;have h4k:=(Zah (ps.take k)).2;rw [List.length_take] at h4k;have hzl:=Zgb (ps.take k);by_cases hlt:k<ps.length
     · obtain⟨ad,p,rfl,_,hc,hp,hm⟩:=hnk.get hlt;have hs:=Z1.1 (hps p hm);have hlen:=Zbx p;have hcap:(ZH (ps.take k)).length+4≤140737488355328:=by omega
       have hnext:Hid ((ZH (ps.take (k+1))).map (Value.int .u8)=(ZH (ps.take k)).map (Value.int .u8)++Lib.runeCells p):=by
        rw [ZbR hlt,hp.out,Zgc,List.map_append];rfl
       have hnext2:Hid ((ZH (ps.take (k+1))).length=(ZH (ps.take k)).length+(Lib.runeCells p).length):=by
        have:=congrArg List.length hnext.out;simp only [List.length_map,List.length_append] at this;exact this
       clear hps hn hnk h4k hzl hown;go_wp2_with (go_at_call 194;refine(Tryz.utf8_AppendRune_plain _ _ _ _ p (by omega) (by omega) _ hownk hcap hsz).mono ?_;rintro e w2 ⟨v',rfl,hown2,o,hg2⟩)
       have hb2:Below w.heap.size w w2:=Z3 (hbk.alloc hsz o) (hownk.alloc o) hg2 (by simp;omega) (Nat.le_refl _);rw [←hnext.out,←hnext2.out] at hown2;go_roundw
       case rel=>exact⟨k+1,by omega,by go_num,hown2,hb2⟩
       case measure=>simp [intOf];omega
     · have hk2:k=ps.length:=by omega
       subst hk2;rw [List.take_length] at hownk;clear hlt;have hconv:=ZdP (P:=Tryz.prog) 79 9 5 Tryz.underlying79 Tryz.underlying5 Tryz.underlying9 wr hownk;rw [Zf8] at hconv;go_wp2_with fail
       go_ret2
       exact⟨rfl,hbk⟩
def AllRel (ps:List Int)(i:Value):Prop:=∃k:Nat,k≤ps.length∧i= .int .i64 k∧∀p∈ps.take k,Ze p=true
theorem Zp2 (A:Option Addr)(c:Nat)(ps:List Int)(w:World){B:Nat} (hn:ZA w B .i32 A ps)(hps:¬∀p∈ps,Ze p=true)(hl:ps.length≤35184372088000):
 Calls Tryz.prog 258 #[.slice A ps.length c] w fun e w'=>e= .returned (.tuple #[.string ⟨#[]⟩,.bool false])∧w=w':=by
 go_enter Tryz.func258,Tryz.ntmps258
 go_wp2_with fail
 go_loop [4,12] (fun sz i=>ZjR ps sz i∧AllRel ps i) (fun _ i=>ps.length - (intOf i).toNat)
 case atStart=>exact⟨⟨0,Nat.zero_le _,rfl,rfl⟩,0,Nat.zero_le _,rfl,by simp⟩
 case round=>
  obtain⟨⟨k,hk,rfl,rfl⟩,k',_,hkk,hall⟩:=hrel;have hkk':k'=k:=by injection hkk with _ h;omega
  subst hkk';have h4:=(Zah (ps.take k')).2;rw [List.length_take] at h4;by_cases hlt:k'<ps.length
  · obtain⟨ad,p,rfl,_,hc,hp,hm⟩:=hn.get hlt;by_cases hs:Ze p=true
    · have hlen:=Zbx p;have hnext:Hid ((Zb (ps.take (k'+1))).length=(Zb (ps.take k')).length+(Lib.encodeRune p).length):=by
       rw [ZbR hlt,hp.out,ZeR,List.length_append];rfl
      have hall':∀q∈ps.take (k'+1),Ze q=true:=by
       rw [ZbR hlt,hp.out];intro q hq;rcases List.mem_append.1 hq with h|h
       · exact hall q h
       · rw [List.mem_singleton.1 h];exact hs
      have Hall:=Lib.hid hall';clear hps hn hall hall' hkk;go_wp2_with (first|(go_at_call 321;refine(Zem _ _).mono ?_;rintro e w' ⟨rfl,rfl⟩)|(go_at_call 322;refine(ZjK hs _).mono ?_;rintro e w' ⟨rfl,rfl⟩))
      go_round
      case rel=>exact⟨⟨k'+1,by omega,by go_num,by rw [hnext.out];go_num⟩,k'+1,by omega,by go_num,Hall.out⟩
      case measure=>simp [intOf];omega
    · have hs2:Ze p=false:=by simpa using hs
      clear hps hn hall hkk hs;go_wp2_with (first|(go_at_call 321;refine(Zem _ _).mono ?_;rintro e w' ⟨rfl,rfl⟩))
      go_ret2
      exact⟨rfl,rfl⟩
  · exfalso
    have hk2:k'=ps.length:=by omega
    subst hk2;rw [List.take_length] at hall;exact hps hall
theorem Zmb {w:World} {base:Nat} {e:TypeId} {size:Nat} {v:Value} {n:Nat} {xs:List Value} (h:w.ownsRow base e size v n xs){K:Nat} {s:ByteArray} {i:Nat} (hk:w.heap[K]? =some (.stringIter s i))(j:Nat):
 (w.iterAt K s j).ownsRow base e size v n xs:=by
 refine⟨h.1,?_⟩;rcases h.2 with hn|⟨g,cap,cur,hv,hb,hg,rest⟩
 · exact .inl hn
 · refine .inr ⟨g,cap,cur,hv,hb,?_,rest⟩;have hne:g≠K:=by
    rintro rfl;rw [hg] at hk;cases hk
   rw [Lib.iterAt_other _ _ _ _ _ hne];exact hg
theorem Zlq {w:World} {base:Nat} {e:TypeId} {size:Nat} {v:Value} {n:Nat} {xs:List Value} (h:w.ownsRow base e size v n xs){K:Nat} {s:ByteArray} {i:Nat} (hk:w.heap[K]? =some (.stringIter s i)):some K≠v.ownBlock:=by
 rcases h.2 with⟨rfl,_⟩|⟨g,cap,cur,rfl,hb,hg,rest⟩
 · simp [Value.ownBlock]
 · intro he;have:K=g:=by simpa [Value.ownBlock] using he
   subst this;rw [hg] at hk;cases hk
theorem ZcV {w:World} {K:Nat} {s:ByteArray} {i:Nat} (hk:w.heap[K]? =some (.stringIter s i)):w.iterPos K=i:=by
 simp [World.iterPos,hk]
theorem ZhI {w:World} {K:Nat} {s:ByteArray} {i:Nat} (hk:w.heap[K]? =some (.stringIter s i)):K<w.heap.size:=(Array.getElem?_eq_some_iff.1 hk).1
theorem ZfP {P:Program} {s:ByteArray} {ps:List Int} {k i n:Nat} {p:Int} (h:Step s ps k i p n)(hi:i<s.size)(w:World)(K:Nat)(hk:w.heap[K]? =some (.stringIter s i))(ty:TypeId):
 (Instr.next (.pointer (some ⟨K,0,none⟩)) true ty).run P w= .ok (.tuple #[.bool true,.int .i64 i,.int .i32 p]) (w.iterAt K s (i+n)):=by
 obtain⟨⟨t,ht⟩,hn,_,hs⟩:=h;rw [Lib.run_next_any_at w K s i ty hk hi,Zhd,ht,ZdR hs,hn];have e:((p.toNat:Nat):Int)=p:=by have:=Z1.1 hs;omega
 simp only [e]
def ZoU (ps:List Int)(s:ByteArray)(w0:World)(O:Obj)(K:Nat)(v:Value)(wr:World):Prop:=
 ∃k i:Nat,Run ps k i∧wr.heap[K]? =some (.stringIter s i)∧wr.ownsRow (w0.heap.size+1) 21 1 v k ((ps.take k).map (Value.int .i32))∧Below (w0.heap.size+1) (w0.alloc O) wr
theorem Zmd {w:World} {base:Nat} {e:TypeId} {size n:Nat} {ad:Addr} {l c:Nat} {xs:List Value} (h:w.ownsRow base e size (.slice (some ad) l c) n xs):ad.spot=none:=by
 rcases h.2 with⟨h,_⟩|⟨g,cap,cur,h,_⟩
 · cases h
 · injection h with h
   injection h with h
   subst h;rfl
theorem ZsY {w:World} {base:Nat} {e:TypeId} {n:Nat} {ad:Addr} {l c:Nat} {zs:List Int} {k:IntKind} (h:w.ownsRow base e 1 (.slice (some ad) l c) n (zs.map (Value.int k))):∃cs fr,w.heap[ad.block]? =some (.cells cs e fr)∧∀j,j<zs.length→cs[ad.off+j]? =some (.int k (zs.getD j 0)):=by
 have hl:zs.length=n:=by simpa using h.1
 rcases h.2 with⟨h,_⟩|⟨g,cap,cur,h,_,hg,hn,_,hs,ht⟩
 · cases h
 · injection h with h
   injection h with h
   subst h;refine⟨cur,(0,0),hg,fun j hj=> ?_⟩;have h1:(cur.toList.take (n*1))[j]? =(zs.map (Value.int k))[j]?:=by rw [ht]
   rw [List.getElem?_take_of_lt (by omega),List.getElem?_map,List.getElem?_eq_getElem hj,Array.getElem?_toList] at h1;rw [Nat.zero_add,h1,List.getD,List.getElem?_eq_getElem hj];rfl
theorem ZoV (s:ByteArray)(ps:List Int)(hg:Good s ps)(hs:s.size≤35184372088000)(w:World)(hT:Zj w):
 Calls Tryz.prog 259 #[.string s] w fun e w'=>∃A c,e= .returned (.tuple #[.slice A ps.length c,.agg #[.int .i64 0,.int .i64 0]])∧ps.length≤c∧ZA w' w'.heap.size .i32 A ps∧(∀ad,A=some ad→w.heap.size≤ad.block∧ad.spot=none∧∃cs fr,w'.heap[ad.block]? =some (.cells cs 21 fr)∧∀j,j<ps.length→cs[ad.off+j]? =some (.int .i32 (ps.getD j 0)))∧Below w.heap.size w w':=by
 obtain⟨i0,hi,iz0,iz1,iz2⟩:=info_parts ZmT;have hlen:=hg.len;have hp:=hg.pre;go_enter Tryz.func259,Tryz.ntmps259
 go_wp2_with (go_at_call 238;refine(Zil s ps hg (by omega) _ (by first|exact hT|exact ZN hT _)).mono ?_;rintro e w1 ⟨rfl,hb1⟩;have hz1:=Zag hb1;have HB1:=hb1.mono (B':=w.heap.size+1) (by simp);obtain⟨hc0,hc1,hf0,hf1,hlt1⟩:=Zbu HB1)
 refine(Zgo _ _ _).mono ?_;rintro e w2 ⟨rfl,hb2⟩;have hz2:=Zag hb2;have HB2:=(HB1.alloc (by omega) _).trans (hb2.mono (by simp;omega));clear hb1 hc0 hc1 hf0 hf1 hlt1 hb2;go_wp2_with (at_make;refine wpList_make_own _ rfl _ _ 25 rfl (w.heap.size+1) 21 i0 (.int .i32 0) 1 Tryz.underlying25 hi iz0 iz1 .i64 .i64 _ ps.length rfl rfl rfl (by rw [iz2];omega) (by unfold maxLen;omega) (by omega) ?_;intro w3 hown hgrow)
 have HB3:=HB2.grown hgrow (by omega) (by simp);have hz3:=hgrow.size;have hown':=hown.alloc (.stringIter s 0);have hit:=World.iter_heap w3 s 0;clear hown hgrow HB2 HB1;go_loopw [6] (fun v wr=>ZoU ps s w (.cells #[.int .i64 0,.int .i64 0] 33) w3.heap.size v wr) (fun _ wr=>s.size+1 - wr.iterPos w3.heap.size)
 case atStart=>exact⟨0,0,Run.zero _,hit,hown',HB3.alloc (by omega) _⟩
 case round=>
  obtain⟨k,i,hrun,hK,hownk,hbk⟩:=hrel;have hle:=hrun.le hp;have hKlt:=ZhI hK;by_cases hk:k<ps.length
  · obtain⟨p,n,hst,hrun',hn1,hn4,hin,hp0,hp1,_⟩:=hrun.step hp hk;have hstep:=fun ty=>ZfP (P:=Tryz.prog) hst (by omega) wr w3.heap.size hK ty;have hown1:=Zmb hownk hK (i+n);have hK1:=Lib.iterAt_heap wr w3.heap.size s i (i+n) hK;have hb1:=Lib.below_iterAt hbk (k:=w3.heap.size) (by omega) s (i+n);have hsz1:(wr.iterAt w3.heap.size s (i+n)).heap.size=wr.heap.size:=Lib.iterAt_size _ _ _ _;have hpos:=ZcV hK;have hcell:=cell_one_new (wr.iterAt w3.heap.size s (i+n)) (.int .i32 p) 21;rw [hsz1] at hcell;have hw4:w.heap.size+1≤((wr.iterAt w3.heap.size s (i+n)).alloc (.cells #[.int .i32 p] 21)).heap.size:=by simp;omega
    have hnext:Hid ((ps.take (k+1)).map (Value.int .i32)=(ps.take k).map (Value.int .i32)++[.int .i32 p]):=by
     rw [hst.snoc hk,List.map_append];rfl
    have hK2:=Below.heap_alloc (wr.iterAt w3.heap.size s (i+n)) (.cells #[.int .i32 p] 21) w3.heap.size (by omega);rw [hK1] at hK2;clear hown';go_wp2_with (at_builtin;refine wpList_append_own _ rfl _ _ 25 rfl (w.heap.size+1) 21 i0 (.int .i32 0) 1 4 Tryz.underlying25 hi iz0 iz1 iz2 rfl (by decide) u6 k _ rfl (hown1.alloc _) ⟨wr.heap.size,0,none⟩ 1 1 [.int .i32 p] rfl rfl hcell (by intro u hu;simp at hu;subst hu;rfl) (by unfold maxLen;omega) (by omega) hw4 ?_;intro v' w5 hown5 hg5 _)
    have hK5:=(hg5.block w3.heap.size (by simp;omega) (Zlq hownk hK)).trans hK2;rw [←hnext.out] at hown5;have hb5:=Z3 (hb1.alloc (by omega) (.cells #[.int .i32 p] 21)) (hown1.alloc _) hg5 hw4 (Nat.le_refl _);refine⟨⟨k+1,i+n,hrun',hK5,hown5,hb5⟩,?_⟩;rw [hpos,ZcV hK5];omega
  · have hk2:k=ps.length:=by omega
    subst hk2;obtain⟨hi,_,hie⟩:=hrun.end_ hp;have hend:=fun ty=>Lib.run_next_end_at (P:=Tryz.prog) wr w3.heap.size s i ty hK (by simp at hie;omega);obtain⟨hc0,hc1,hf0,hf1,hlt1⟩:=Zbu hbk;rw [List.take_length] at hownk;clear hown';go_wp2_with fail
    obtain⟨A,c,hv,hcap,_,_⟩:=ZA.of_own hownk;have hownF:=ownsRow_setCell_below (ownsRow_setCell_below hownk (a:=⟨w.heap.size,0,none⟩) (Nat.lt_succ_self _) (.int .i64 0)) (a:=⟨w.heap.size,1,none⟩) (Nat.lt_succ_self _) (.int .i64 0);subst hv;obtain⟨A',c',hv',_,_,hnF⟩:=ZA.of_own hownF;simp only [Value.slice.injEq] at hv';obtain⟨rfl,_,_⟩:=hv';refine bodyPost_ret (v:= .tuple #[.slice A ps.length c,.agg #[.int .i64 0,.int .i64 0]]) (by simp [results,Tryz.results259,go_sem,hc0,hc1]) rfl ⟨A,c,rfl,hcap,hnF,fun ad had=>by subst had;have:=(hownF.lt _ rfl).1;exact⟨by omega,Zmd hownF,ZsY hownF⟩,?_⟩;exact(((((Below.refl _ w).alloc (Nat.le_refl _) _).trans (hbk.mono (by omega))).setCell (Nat.le_refl _) _).setCell (Nat.le_refl _) _)
end Go.Proofs.YtlfinljfghhpdaaGreatDoor
