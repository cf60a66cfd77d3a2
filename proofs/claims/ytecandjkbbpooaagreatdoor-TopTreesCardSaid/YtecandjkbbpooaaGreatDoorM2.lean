/- Lemmas for a statement on the tops; conditions: as each says. -/
import Derived.Lib.IndexBytes
import Derived.Test.YtecandjkbbpooaaGreatDoorRows
import Derived.WalkSpells
import Derived.Outline
import Derived.Deep.DeepFit
import Derived.Lib.Index
import Derived.Lib.OthersKept
import Derived.LoopN
import Derived.Test.YtecandjkbbpooaaGreatDoorM1
set_option linter.unusedVariables false
set_option linter.unusedSimpArgs false
set_option maxRecDepth 100000
set_option maxHeartbeats 200000
namespace Go.Proofs.YtecandjkbbpooaaGreatDoor
open Go Go.RowKit
def Pre (s:ByteArray)(ps:List Int)(r:List UInt8):Prop:=s.data.toList=Zc ps++r∧∀p∈ps,Zv p=true
def Run (ps:List Int)(k i:Nat):Prop:=k≤ps.length∧i=(Zc (ps.take k)).length
theorem Good.pre {s:ByteArray} {ps:List Int} (h:Good s ps):Pre s ps []:=⟨by simpa using h.1,h.2⟩
theorem Za3.pre {s:ByteArray} {n:Nat} (h:Za3 s n):∃ps r,Pre s ps r∧n=(Zc ps).length∧r≠[]∧ZbC (ZA r):=by
 obtain⟨ps,r,h1,h2,h3,h4,h5⟩:=h;exact⟨ps,r,⟨h1,h2⟩,h3,h4,h5⟩
theorem Run.zero (ps:List Int):Run ps 0 0:=⟨Nat.zero_le _,rfl⟩
theorem Zge {ps:List Int} {k:Nat} (h:k<ps.length):ps.getD k 0∈ps:=by
 rw [List.getD_eq_getElem?_getD,List.getElem?_eq_getElem h];exact List.getElem_mem h
theorem Zkv {ps:List Int} {k:Nat} (h:k<ps.length):ps.drop k=ps.getD k 0::ps.drop (k+1):=by
 rw [List.drop_eq_getElem_cons h,List.getD_eq_getElem?_getD,List.getElem?_eq_getElem h];rfl
theorem ZeJ {ps:List Int} {k:Nat} (h:k<ps.length):ps.take (k+1)=ps.take k++[ps.getD k 0]:=by
 rw [List.take_succ_eq_append_getElem h,List.getD_eq_getElem?_getD,List.getElem?_eq_getElem h];rfl
theorem Run.drop {s:ByteArray} {ps:List Int} {r:List UInt8} {k i:Nat} (hp:Pre s ps r)(h:Run ps k i):s.data.toList.drop i=Zc (ps.drop k)++r:=by
 have e:Zc ps=Zc (ps.take k)++Zc (ps.drop k):=by rw [←ZgI,List.take_append_drop]
 rw [hp.1,e,List.append_assoc,h.2,List.drop_left]
theorem Run.next {ps:List Int} {k i:Nat} (h:Run ps k i)(hk:k<ps.length):Run ps (k+1) (i+(Lib.encodeRune (ps.getD k 0)).length):=
 ⟨hk,by rw [ZeJ hk,ZgI,List.length_append,←h.2,Za2,Zca,List.append_nil]⟩
theorem Run.head {s:ByteArray} {ps:List Int} {r:List UInt8} {k i:Nat} (hp:Pre s ps r)(h:Run ps k i)(hk:k<ps.length):
 ∃t,s.data.toList.drop i=Lib.encodeRune (ps.getD k 0)++t∧Zv (ps.getD k 0)=true∧i<s.size∧i+(Lib.encodeRune (ps.getD k 0)).length≤s.size:=by
 have hd:=h.drop hp;rw [Zkv hk,Za2,List.append_assoc] at hd;have hl:=congrArg List.length hd;rw [List.length_drop,List.length_append] at hl;have h1:=(ZcS (ps.getD k 0)).1;have hs:s.data.toList.length=s.size:=by simp
 rw [hs] at hl;exact⟨_,hd,hp.2 _ (Zge hk),by omega,by omega⟩
theorem Run.end_ {s:ByteArray} {ps:List Int} {r:List UInt8} {i:Nat} (hp:Pre s ps r)(h:Run ps ps.length i):i=(Zc ps).length∧s.data.toList.drop i=r∧i+r.length=s.size:=by
 have hd:=h.drop hp;rw [List.drop_length,Zca,List.nil_append] at hd;have h2:=h.2;rw [List.take_length] at h2;refine⟨h2,hd,?_⟩;have hl:=congrArg List.length hp.1;rw [List.length_append] at hl;have hs:s.data.toList.length=s.size:=by simp
 omega
theorem Run.le {s:ByteArray} {ps:List Int} {r:List UInt8} {k i:Nat} (hp:Pre s ps r)(h:Run ps k i):k≤i∧i≤s.size∧k≤ps.length:=by
 have h1:=(ZcX (ps.take k)).1;rw [List.length_take,←h.2] at h1;have h0:=h.1;have hl:=congrArg List.length hp.1;have e:Zc ps=Zc (ps.take k)++Zc (ps.drop k):=by rw [←ZgI,List.take_append_drop]
 rw [e,List.length_append,List.length_append,←h.2] at hl;have hs:s.data.toList.length=s.size:=by simp
 omega
theorem ZqC (s:ByteArray)(i:Nat):(s.extract i s.size).data.toList=s.data.toList.drop i:=Lib.extract_to_end s i
theorem Zkt (s:ByteArray)(i:Nat)(h:i<s.size):Lib.decodeGo (s.extract i s.size)=ZA (s.data.toList.drop i):=by
 have e:=ZqC s i;have hz:(s.extract i s.size).size=s.size - i:=by
  have h2:=congrArg List.length e;have h3:(s.extract i s.size).data.toList.length=(s.extract i s.size).size:=by simp
  have h4:s.data.toList.length=s.size:=by simp
  rw [h3,List.length_drop,h4] at h2;exact h2
 unfold Lib.decodeGo;rw [if_neg (by omega),ZhC,e,List.drop_zero]
def Step (s:ByteArray)(ps:List Int)(k i:Nat)(p:Int)(n:Nat):Prop:=
 (∃t,s.data.toList.drop i=Lib.encodeRune p++t)∧n=(Lib.encodeRune p).length∧p=ps.getD k 0∧Zv p=true
theorem Run.step {s:ByteArray} {ps:List Int} {r:List UInt8} {k i:Nat} (hp:Pre s ps r)(h:Run ps k i)(hk:k<ps.length):
 ∃(p:Int) (n:Nat),Step s ps k i p n∧Run ps (k+1) (i+n)∧1≤n∧n≤4∧i+n≤s.size∧0≤p∧p≤1114111∧((p==65533)=false∨(p=65533∧2≤n)):=by
 obtain⟨t,hd,hs,hi,hi2⟩:=h.head hp hk;have h4:=ZaN.1 hs;have h5:=ZcS (ps.getD k 0);refine⟨_,_,⟨⟨t,hd⟩,rfl,rfl,hs⟩,h.next hk,h5.1,h5.2,hi2,h4.1,h4.2.1,?_⟩;by_cases h6:ps.getD k 0=65533
 · right
   rw [h6];exact⟨rfl,by decide⟩
 · left
   simpa using h6
theorem Step.snoc {s:ByteArray} {ps:List Int} {k i n:Nat} {p:Int} (h:Step s ps k i p n)(hk:k<ps.length):ps.take (k+1)=ps.take k++[p]:=by
 rw [ZeJ hk,h.2.2.1]
def Zk (w:World):Prop:=Lib.Utf8Tabs 1 2 w
theorem Zco (e a:Int)(w:World):
 Calls Tryz.prog 7 #[.agg #[.int .i64 e,.int .i64 a]] w fun x w'=>x= .returned (.bool (e !=0))∧Below w.heap.size w w':=by
 go_enter Tryz.func7,Tryz.ntmps7
 go_wp2
 go_ret
 exact⟨rfl,(Below.refl _ _).alloc (Nat.le_refl _) _⟩
theorem Znw (s:ByteArray)(i:Nat)(p:Int)(t:List UInt8)(hd:s.data.toList.drop i=Lib.encodeRune p++t)(hp:Zv p=true)(w:World)(hT:Zk w):
 Calls Tryz.prog 247 #[.string (s.extract i s.size)] w fun e w'=>e= .returned (.tuple #[.int .i32 p,.int .i64 (Lib.encodeRune p).length])∧Below w.heap.size w w':=by
 have hi:i<s.size:=by
  have h1:=congrArg List.length hd;have h2:=(ZcS p).1;have h4:s.data.toList.length=s.size:=by simp
  rw [List.length_drop,List.length_append,h4] at h1;omega
 have h:=Tryz.utf8_DecodeRuneInString (s.extract i s.size) w hT;rw [Zkt s i hi,hd,Zen hp] at h;have e:((p.toNat:Nat):Int)=p:=by have:=ZaN.1 hp;omega
 simp only [e] at h;exact h
theorem Znv (s:ByteArray)(i:Nat)(hi:i<s.size)(hd:ZbC (ZA (s.data.toList.drop i)))(w:World)(hT:Zk w):
 Calls Tryz.prog 247 #[.string (s.extract i s.size)] w fun e w'=>(∃n:Nat,n≤1∧e= .returned (.tuple #[.int .i32 65533,.int .i64 n]))∧Below w.heap.size w w':=by
 have h:=Tryz.utf8_DecodeRuneInString (s.extract i s.size) w hT;rw [Zkt s i hi] at h;refine h.mono fun e w' ⟨he,hb⟩=>⟨⟨_,hd.2,?_⟩,hb⟩
 rw [he,hd.1];rfl
theorem Zaf {w w':World} (h:Zk w){B:Nat} (hb:Below B w w')(hB:w.heap.size≤B):Zk w':=Utf8Tabs_below h (hb.mono hB)
def ZoO (ps:List Int)(w0:World)(n at_:Value)(wr:World):Prop:=
 ∃k i:Nat,n= .int .i64 k∧at_= .int .i64 i∧Run ps k i∧Below (w0.heap.size+1) (w0.alloc (.cells #[.int .i64 0,.int .i64 0] 62)) wr
theorem Znx {s:ByteArray} {ps:List Int} {k i n:Nat} {p:Int} (h:Step s ps k i p n)(w:World)(hT:Zk w):
 Calls Tryz.prog 247 #[.string (s.extract i s.size)] w fun e w'=>e= .returned (.tuple #[.int .i32 p,.int .i64 n])∧Below w.heap.size w w':=by
 obtain⟨⟨t,ht⟩,hn,_,hs⟩:=h;subst hn;exact Znw s i p t ht hs w hT
theorem Zmy (s:ByteArray)(ps:List Int)(r:List UInt8)(hp:Pre s ps r)(hr:r=[]∨ZbC (ZA r))(hs:s.size≤140737488355328)(w:World)(hT:Zk w):
 Calls Tryz.prog 212 #[.string s] w fun e w'=>
  ((r=[]∧e= .returned (.tuple #[.int .i64 ps.length,.agg #[.int .i64 0,.int .i64 0]]))∨(r≠[]∧e= .returned (.tuple #[.int .i64 0,.agg #[.int .i64 2,.int .i64 (Zc ps).length]])))∧Below w.heap.size w w':=by
 go_enter Tryz.func212,Tryz.ntmps212
 go_wp2_with fail
 go_loopw [4,5] (fun n i wr=>ZoO ps w n i wr) (fun _ i _=>s.size - (intOf i).toNat)
 case atStart=>exact⟨0,0,rfl,rfl,Run.zero _,Below.refl _ _⟩
 case round=>
  obtain⟨k,i,rfl,rfl,hrun,hb⟩:=hrel;have hle:=hrun.le hp;obtain⟨hc0,hc1,hf0,hf1,hsz⟩:=Zax hb;have hTr:Zk wr:=Zaf (Zaf hT (Below.alloc (Below.refl (w.heap.size) w) (Nat.le_refl _) _) (Nat.le_refl _)) hb (by simp);by_cases hk:k<ps.length
  · obtain⟨p,n,hst,hrun',hn1,hn4,hin,_,_,hq⟩:=hrun.step hp hk;rcases hq with hq|⟨rfl,hq⟩
    all_goals
     go_wp2_with (go_at_call 247;refine(Znx hst _ hTr).mono ?_;rintro e w' ⟨rfl,hb'⟩)
     go_roundw
     case rel=>exact⟨k+1,i+n,by go_num,by go_num,hrun',hb.trans (hb'.mono (by omega))⟩
     case measure=>simp [intOf];omega
  · have hk2:k=ps.length:=by omega
    subst hk2;obtain⟨hi,hdr,hir⟩:=hrun.end_ hp;by_cases hr0:r=[]
    · have hge:¬i<s.size:=by rw [hr0] at hir;simp at hir;omega
      clear hdr hir hi;go_wp2_with fail
      refine bodyPost_ret (v:= .tuple #[.int .i64 ps.length,.agg #[.int .i64 0,.int .i64 0]]) (by simp [results,Tryz.results212,go_sem,hc0,hc1]) rfl ⟨.inl ⟨hr0,rfl⟩,?_⟩;exact(((((Below.refl _ w).alloc (Nat.le_refl _) _).trans (hb.mono (by omega))).setCell (Nat.le_refl _) _).setCell (Nat.le_refl _) _)
    · have hlt:i<s.size:=by have:=List.length_pos_iff.2 hr0;omega
      have he:ZbC (ZA (s.data.toList.drop i)):=by rw [hdr];exact hr.resolve_left hr0
      have Hi:=Lib.hid hi;clear hdr hir hi;go_wp2_with (go_at_call 247;refine(Znv s i hlt he _ hTr).mono ?_;rintro e w' ⟨⟨n,hn,rfl⟩,hb'⟩;have hb2:=hb'.mono (B':=w.heap.size+1) (by omega);have hb3:=hb.trans hb2;obtain⟨hc0',hc1',hf0',hf1',hsz'⟩:=Zax hb3)
      rw [Hi.out];refine bodyPost_ret (v:= .tuple #[.int .i64 0,.agg #[.int .i64 2,.int .i64 (Zc ps).length]]) (by simp [results,Tryz.results212,go_sem,hc0',hc1']) rfl ⟨.inr ⟨hr0,rfl⟩,?_⟩;exact(((((Below.refl _ w).alloc (Nat.le_refl _) _).trans (hb3.mono (by omega))).setCell (Nat.le_refl _) _).setCell (Nat.le_refl _) _)
theorem Ziv (s:ByteArray)(ps:List Int)(hg:Good s ps)(hs:s.size≤140737488355328)(w:World)(hT:Zk w):
 Calls Tryz.prog 212 #[.string s] w fun e w'=>e= .returned (.tuple #[.int .i64 ps.length,.agg #[.int .i64 0,.int .i64 0]])∧Below w.heap.size w w':=
 (Zmy s ps [] hg.pre (.inl rfl) hs w hT).mono fun _ _ ⟨h,hb⟩=>by
  rcases h with⟨_,h⟩|⟨h,_⟩
  · exact⟨h,hb⟩
  · exact absurd rfl h
theorem Ziu (s:ByteArray)(n:Nat)(hg:Za3 s n)(hs:s.size≤140737488355328)(w:World)(hT:Zk w):
 Calls Tryz.prog 212 #[.string s] w fun e w'=>e= .returned (.tuple #[.int .i64 0,.agg #[.int .i64 2,.int .i64 n]])∧Below w.heap.size w w':=by
 obtain⟨ps,r,hp,rfl,hr,he⟩:=hg.pre;refine(Zmy s ps r hp (.inr he) hs w hT).mono fun _ _ ⟨h,hb⟩=> ?_;rcases h with⟨h,_⟩|⟨_,h⟩
 · exact absurd h hr
 · exact⟨h,hb⟩
theorem ZI {w:World} (h:Zk w)(o:Obj):Zk (w.alloc o):=Zaf h ((Below.refl _ _).alloc (Nat.le_refl _) _) (Nat.le_refl _)
theorem ZgU (s:ByteArray)(ps:List Int)(hg:Good s ps)(hs:s.size≤140737488355328)(w:World)(hT:Zk w):
 Calls Tryz.prog 131 #[.string s] w fun e w'=>e= .returned (.agg #[.int .i64 0,.int .i64 0])∧Below w.heap.size w w':=by
 go_enter Tryz.func131,Tryz.ntmps131
 go_wp2_with (go_at_call 212;refine(Ziv s ps hg hs _ (by first|exact hT|exact ZI hT _)).mono ?_;rintro e w1 ⟨rfl,hb1⟩;have hz0:=hb1.size;try (obtain⟨hc0,hc1,hf0,hf1,hz1⟩:=Zax (hb1.mono (by simp))))
 refine bodyPost_ret (v:= .agg #[.int .i64 0,.int .i64 0]) (by simp [results,Tryz.results131,go_sem,hc0,hc1,hz1]) rfl ⟨rfl,?_⟩
 (repeat (first|exact Ze hb1|exact hb1|refine Below.alloc ?_ (by first|exact Nat.le_refl _|exact hz0|(simp;done)|(simp;omega)) _|refine Below.setCell ?_ (by first|exact Nat.le_refl _|exact hz0|(simp;done)|(simp;omega)) _))
theorem Znq (s:ByteArray)(n:Nat)(hg:Za3 s n)(hs:s.size≤140737488355328)(w:World)(hT:Zk w):
 Calls Tryz.prog 131 #[.string s] w fun e w'=>e= .returned (.agg #[.int .i64 2,.int .i64 n])∧Below w.heap.size w w':=by
 go_enter Tryz.func131,Tryz.ntmps131
 go_wp2_with (go_at_call 212;refine(Ziu s n hg hs _ (by first|exact hT|exact ZI hT _)).mono ?_;rintro e w1 ⟨rfl,hb1⟩;have hz0:=hb1.size;try (obtain⟨hc0,hc1,hf0,hf1,hz1⟩:=Zax (hb1.mono (by simp))))
 refine bodyPost_ret (v:= .agg #[.int .i64 2,.int .i64 n]) (by simp [results,Tryz.results131,go_sem,hc0,hc1,hz1]) rfl ⟨rfl,?_⟩
 (repeat (first|exact Ze hb1|exact hb1|refine Below.alloc ?_ (by first|exact Nat.le_refl _|exact hz0|(simp;done)|(simp;omega)) _|refine Below.setCell ?_ (by first|exact Nat.le_refl _|exact hz0|(simp;done)|(simp;omega)) _))
theorem Zi1 (s:ByteArray)(ps:List Int)(hg:Good s ps)(hs:s.size≤140737488355328)(w:World)(hT:Zk w):
 Calls Tryz.prog 338 #[.string s] w fun e w'=>e= .returned (.int .i64 ps.length)∧Below w.heap.size w w':=by
 go_enter Tryz.func338,Tryz.ntmps338
 go_wp2_with (go_at_call 212;refine(Ziv s ps hg hs _ (by first|exact hT|exact ZI hT _)).mono ?_;rintro e w1 ⟨rfl,hb1⟩;have hz0:=hb1.size;try (obtain⟨hc0,hc1,hf0,hf1,hz1⟩:=Zax (hb1.mono (by simp))))
 go_ret
 exact⟨rfl,by(repeat (first|exact Ze hb1|exact hb1|refine Below.alloc ?_ (by first|exact Nat.le_refl _|exact hz0|(simp;done)|(simp;omega)) _|refine Below.setCell ?_ (by first|exact Nat.le_refl _|exact hz0|(simp;done)|(simp;omega)) _))⟩
theorem Znt (s:ByteArray)(n:Nat)(hg:Za3 s n)(hs:s.size≤140737488355328)(w:World)(hT:Zk w):
 Calls Tryz.prog 338 #[.string s] w fun e w'=>e= .returned (.int .i64 0)∧Below w.heap.size w w':=by
 go_enter Tryz.func338,Tryz.ntmps338
 go_wp2_with (go_at_call 212;refine(Ziu s n hg hs _ (by first|exact hT|exact ZI hT _)).mono ?_;rintro e w1 ⟨rfl,hb1⟩;have hz0:=hb1.size;try (obtain⟨hc0,hc1,hf0,hf1,hz1⟩:=Zax (hb1.mono (by simp))))
 go_ret
 exact⟨rfl,by(repeat (first|exact Ze hb1|exact hb1|refine Below.alloc ?_ (by first|exact Nat.le_refl _|exact hz0|(simp;done)|(simp;omega)) _|refine Below.setCell ?_ (by first|exact Nat.le_refl _|exact hz0|(simp;done)|(simp;omega)) _))⟩
end Go.Proofs.YtecandjkbbpooaaGreatDoor
namespace Go.Proofs.YtecandjkbbpooaaGreatDoor
open Go
def ZdR (n:Int):UInt8:=if n<10 then(48+n).toNat.toUInt8 else(55+n).toNat.toUInt8
def Zhs (p:Int):List UInt8:=[ZdR (p / 4096),ZdR (p / 256 % 16),ZdR (p / 16 % 16),ZdR (p % 16),32]
def hexL (ps:List Int):List UInt8:=ps.flatMap Zhs
theorem Zrh (p:Int)(ps:List Int):hexL (p::ps)=Zhs p++hexL ps:=rfl
def fnd:List Int→Int→Int
 |[],_=> -1
 |q::l,p=>if q=p then 0 else if fnd l p= -1 then -1 else fnd l p+1
theorem fnd_ge (l:List Int)(p:Int): -1≤fnd l p:=by
 induction l with
 |nil=>simp [fnd]
 |cons q l ih=>unfold fnd;split; · decide
               split<;>omega
end Go.Proofs.YtecandjkbbpooaaGreatDoor
namespace Go.Proofs.YtecandjkbbpooaaGreatDoor
open Go Go.RowKit
theorem Zha (p:Int)(w:World):
 Calls Tryz.prog 325 #[.int .i32 p] w fun e w'=>e= .returned (.bool (Zv p))∧w=w':=by
 go_enter Tryz.func325,Tryz.ntmps325
 go_wp2
 all_goals (go_ret;exact⟨Zc5 (by rw [Bool.eq_iff_iff,ZaN];simp;try omega),rfl⟩)
theorem Zs4 {p:Int} (h:Zv p=true):Lib.runeLen p=(Lib.encodeRune p).length:=by
 unfold Lib.runeLen;rcases ZkZ h with⟨h0,h1⟩|⟨h0,h1⟩|h3|⟨h0,h1⟩
 · rw [Zeq h0 h1];simp only [List.length_cons,List.length_nil];repeat' split
   all_goals omega
 · rw [Zf6 h0 h1];simp only [List.length_cons,List.length_nil];repeat' split
   all_goals omega
 · rw [Zf5 h3];simp only [List.length_cons,List.length_nil];repeat' split
   all_goals omega
 · rw [Zf4 h0 h1];simp only [List.length_cons,List.length_nil];repeat' split
   all_goals omega
theorem ZoH {p:Int} (h:Zv p=true)(w:World):
 Calls Tryz.prog 326 #[.int .i32 p] w fun e w'=>e= .returned (.int .i64 (Lib.encodeRune p).length)∧w=w':=
 (Tryz.utf8_RuneLen p w).mono fun _ _ ⟨he,hw⟩=>⟨by rw [he,Zs4 h],hw.symm⟩
def ZF (ps:List Int):List Int:=ps.flatMap Lib.encodeRuneZ
theorem ZgK (a:List Int)(p:Int):ZF (a++[p])=ZF a++Lib.encodeRuneZ p:=by simp [ZF]
theorem ZgJ (ps:List Int):(ZF ps).length=(Zc ps).length:=by
 induction ps with
 |nil=>rfl
 |cons p ps ih=>
  rw [Za2,List.length_append,←ih];simp [ZF,Lib.encodeRune]
theorem ZgG (ps:List Int):strOfNums (ZF ps)=⟨(Zc ps).toArray⟩:=by
 unfold strOfNums;congr 2
 induction ps with
 |nil=>rfl
 |cons p ps ih=>
  rw [Za2,←ih];simp [ZF,Lib.encodeRune]
theorem ZaP.get {w:World} {B:Nat} {k:IntKind} {A:Option Addr} {zs:List Int} {i:Nat} (h:ZaP w B k A zs)(hi:i<zs.length):
 ∃ad p,A=some ad∧ad.block<B∧w.cell? (ad.add i)=some (.int k p)∧Hid (zs.getD i 0=p)∧p∈zs:=by
 obtain⟨ad,e,hb,hc⟩:=h.at_ hi;exact⟨ad,_,e,hb,hc,rfl,Zge hi⟩
theorem ZfX:(Tryz.prog.info? 5).map (fun i=>(i.zero,i.size,i.bytes))=some (some (.int .u8 0),1,1):=by kernel_rfl
theorem Zs5:(Tryz.prog.info? 21).map (fun i=>(i.zero,i.size,i.bytes))=some (some (.int .i32 0),1,4):=by kernel_rfl
def Zo6 (ps:List Int)(w0:World)(b i:Value)(wr:World):Prop:=
 ∃k:Nat,k≤ps.length∧i= .int .i64 k∧wr.ownsRow w0.heap.size 5 1 b (ZF (ps.take k)).length ((ZF (ps.take k)).map (Value.int .u8))∧Below w0.heap.size w0 wr
def ZoS (ps:List Int)(sz i:Value):Prop:=∃k:Nat,k≤ps.length∧i= .int .i64 k∧sz= .int .i64 (Zc (ps.take k)).length
theorem Zo7 (A:Option Addr)(c:Nat)(ps:List Int)(w:World){B:Nat} (hn:ZaP w B .i32 A ps)(hB:B≤w.heap.size)(hps:∀p∈ps,Zv p=true)(hl:ps.length≤35184372088000):
 Calls Tryz.prog 275 #[.slice A ps.length c] w fun e w'=>e= .returned (.tuple #[.string ⟨(Zc ps).toArray⟩,.bool true])∧Below w.heap.size w w':=by
 obtain⟨i0,hi,hz0,hz1,hz2⟩:=info_parts ZfX;go_enter Tryz.func275,Tryz.ntmps275
 go_wp2_with fail
 go_loop [4,12] (fun sz i=>ZoS ps sz i) (fun _ i=>ps.length - (intOf i).toNat)
 case atStart=>exact⟨0,Nat.zero_le _,rfl,rfl⟩
 case round=>
  obtain⟨k,hk,rfl,rfl⟩:=hrel;have h4:=(ZcX (ps.take k)).2;rw [List.length_take] at h4;by_cases hlt:k<ps.length
  · obtain⟨ad,p,rfl,_,hc,hp,hm⟩:=hn.get hlt;have hs:=hps p hm;have hlen:=ZcS p;have hnext:Hid ((Zc (ps.take (k+1))).length=(Zc (ps.take k)).length+(Lib.encodeRune p).length):=by
     rw [ZeJ hlt,hp.out,ZmW,List.length_append];rfl
    clear hps hn;go_wp2_with (first|(go_at_call 325;refine(Zha _ _).mono ?_;rintro e w' ⟨rfl,rfl⟩)|(go_at_call 326;refine(ZoH hs _).mono ?_;rintro e w' ⟨rfl,rfl⟩))
    go_round
    case rel=>exact⟨k+1,by omega,by go_num,by rw [hnext.out];go_num⟩
    case measure=>simp [intOf];omega
  · have hk2:k=ps.length:=by omega
    subst hk2;rw [List.take_length] at h4⊢;clear hlt;go_wp2_with (at_make;refine wpList_make_own _ rfl _ _ 150 rfl w.heap.size 5 i0 (.int .u8 0) 1 Tryz.underlying150 hi hz0 hz1 .i64 .i64 _ (Zc ps).length rfl rfl rfl (by rw [hz2];omega) (by unfold maxLen;omega) (Nat.le_refl _) ?_;intro w1 hown hgrow)
    have hb1:Below w.heap.size w w1:=(Below.refl _ _).grown hgrow (Nat.le_refl _) (by simp);clear hgrow;go_loopw [7,28] (fun b i wr=>Zo6 ps w b i wr) (fun _ i _=>ps.length - (intOf i).toNat)
    case atStart=>exact⟨0,Nat.zero_le _,rfl,hown,hb1⟩
    case round=>
     obtain⟨k,hk,rfl,hownk,hbk⟩:=hrel;have hnk:=hn.below (hbk.mono hB);have hsz:=hbk.size;have h4k:=(ZcX (ps.take k)).2;rw [List.length_take] at h4k;have hzl:=ZgJ (ps.take k);by_cases hlt:k<ps.length
     · obtain⟨ad,p,rfl,_,hc,hp,hm⟩:=hnk.get hlt;have hs:=ZaN.1 (hps p hm);have hlen:=ZcS p;have hcap:(ZF (ps.take k)).length+4≤140737488355328:=by omega
       have hnext:Hid ((ZF (ps.take (k+1))).map (Value.int .u8)=(ZF (ps.take k)).map (Value.int .u8)++Lib.runeCells p):=by
        rw [ZeJ hlt,hp.out,ZgK,List.map_append];rfl
       have hnext2:Hid ((ZF (ps.take (k+1))).length=(ZF (ps.take k)).length+(Lib.runeCells p).length):=by
        have:=congrArg List.length hnext.out;simp only [List.length_map,List.length_append] at this;exact this
       clear hps hn hnk h4k hzl hown;go_wp2_with (go_at_call 170;refine(Tryz.utf8_AppendRune_plain _ _ _ _ p (by omega) (by omega) _ hownk hcap hsz).mono ?_;rintro e w2 ⟨v',rfl,hown2,o,hg2⟩)
       have hb2:Below w.heap.size w w2:=Zaa (hbk.alloc hsz o) (hownk.alloc o) hg2 (by simp;omega) (Nat.le_refl _);rw [←hnext.out,←hnext2.out] at hown2;go_roundw
       case rel=>exact⟨k+1,by omega,by go_num,hown2,hb2⟩
       case measure=>simp [intOf];omega
     · have hk2:k=ps.length:=by omega
       subst hk2;rw [List.take_length] at hownk;clear hlt;have hconv:=ZdO (P:=Tryz.prog) 150 9 5 Tryz.underlying150 Tryz.underlying5 Tryz.underlying9 wr hownk;rw [ZgG] at hconv;go_wp2_with fail
       go_ret2
       exact⟨rfl,hbk⟩
theorem Zib {w:World} {base:Nat} {e:TypeId} {size:Nat} {v:Value} {n:Nat} {xs:List Value} (h:w.ownsRow base e size v n xs){K:Nat} {s:ByteArray} {i:Nat} (hk:w.heap[K]? =some (.stringIter s i))(j:Nat):
 (w.iterAt K s j).ownsRow base e size v n xs:=by
 refine⟨h.1,?_⟩;rcases h.2 with hn|⟨g,cap,cur,hv,hb,hg,rest⟩
 · exact .inl hn
 · refine .inr ⟨g,cap,cur,hv,hb,?_,rest⟩;have hne:g≠K:=by
    rintro rfl;rw [hg] at hk;cases hk
   rw [Lib.iterAt_other _ _ _ _ _ hne];exact hg
theorem ZhU {w:World} {base:Nat} {e:TypeId} {size:Nat} {v:Value} {n:Nat} {xs:List Value} (h:w.ownsRow base e size v n xs){K:Nat} {s:ByteArray} {i:Nat} (hk:w.heap[K]? =some (.stringIter s i)):some K≠v.ownBlock:=by
 rcases h.2 with⟨rfl,_⟩|⟨g,cap,cur,rfl,hb,hg,rest⟩
 · simp [Value.ownBlock]
 · intro he;have:K=g:=by simpa [Value.ownBlock] using he
   subst this;rw [hg] at hk;cases hk
theorem ZcV {w:World} {K:Nat} {s:ByteArray} {i:Nat} (hk:w.heap[K]? =some (.stringIter s i)):w.iterPos K=i:=by
 simp [World.iterPos,hk]
theorem Zff {w:World} {K:Nat} {s:ByteArray} {i:Nat} (hk:w.heap[K]? =some (.stringIter s i)):K<w.heap.size:=(Array.getElem?_eq_some_iff.1 hk).1
theorem Zgo {P:Program} {s:ByteArray} {ps:List Int} {k i n:Nat} {p:Int} (h:Step s ps k i p n)(hi:i<s.size)(w:World)(K:Nat)(hk:w.heap[K]? =some (.stringIter s i))(ty:TypeId):
 (Instr.next (.pointer (some ⟨K,0,none⟩)) true ty).run P w= .ok (.tuple #[.bool true,.int .i64 i,.int .i32 p]) (w.iterAt K s (i+n)):=by
 obtain⟨⟨t,ht⟩,hn,_,hs⟩:=h;rw [Lib.run_next_any_at w K s i ty hk hi,ZhC,ht,Zen hs,hn];have e:((p.toNat:Nat):Int)=p:=by have:=ZaN.1 hs;omega
 simp only [e]
def Zov (ps:List Int)(s:ByteArray)(w0:World)(O:Obj)(K:Nat)(v:Value)(wr:World):Prop:=
 ∃k i:Nat,Run ps k i∧wr.heap[K]? =some (.stringIter s i)∧wr.ownsRow (w0.heap.size+1) 21 1 v k ((ps.take k).map (Value.int .i32))∧Below (w0.heap.size+1) (w0.alloc O) wr
theorem ZlI {w:World} {base:Nat} {e:TypeId} {size n:Nat} {ad:Addr} {l c:Nat} {xs:List Value} (h:w.ownsRow base e size (.slice (some ad) l c) n xs):ad.spot=none:=by
 rcases h.2 with⟨h,_⟩|⟨g,cap,cur,h,_⟩
 · cases h
 · injection h with h
   injection h with h
   subst h;rfl
theorem Zsl {w:World} {base:Nat} {e:TypeId} {n:Nat} {ad:Addr} {l c:Nat} {zs:List Int} {k:IntKind} (h:w.ownsRow base e 1 (.slice (some ad) l c) n (zs.map (Value.int k))):∃cs fr,w.heap[ad.block]? =some (.cells cs e fr)∧∀j,j<zs.length→cs[ad.off+j]? =some (.int k (zs.getD j 0)):=by
 have hl:zs.length=n:=by simpa using h.1
 rcases h.2 with⟨h,_⟩|⟨g,cap,cur,h,_,hg,hn,_,hs,ht⟩
 · cases h
 · injection h with h
   injection h with h
   subst h;refine⟨cur,(0,0),hg,fun j hj=> ?_⟩;have h1:(cur.toList.take (n*1))[j]? =(zs.map (Value.int k))[j]?:=by rw [ht]
   rw [List.getElem?_take_of_lt (by omega),List.getElem?_map,List.getElem?_eq_getElem hj,Array.getElem?_toList] at h1;rw [Nat.zero_add,h1,List.getD,List.getElem?_eq_getElem hj];rfl
theorem Zox (s:ByteArray)(ps:List Int)(hg:Good s ps)(hs:s.size≤35184372088000)(w:World)(hT:Zk w):
 Calls Tryz.prog 276 #[.string s] w fun e w'=>∃A c,e= .returned (.tuple #[.slice A ps.length c,.agg #[.int .i64 0,.int .i64 0]])∧ps.length≤c∧ZaP w' w'.heap.size .i32 A ps∧(∀ad,A=some ad→w.heap.size≤ad.block∧ad.spot=none∧∃cs fr,w'.heap[ad.block]? =some (.cells cs 21 fr)∧∀j,j<ps.length→cs[ad.off+j]? =some (.int .i32 (ps.getD j 0)))∧Below w.heap.size w w':=by
 obtain⟨i0,hi,iz0,iz1,iz2⟩:=info_parts Zs5;have hlen:=hg.len;have hp:=hg.pre;go_enter Tryz.func276,Tryz.ntmps276
 go_wp2_with (go_at_call 212;refine(Ziv s ps hg (by omega) _ (by first|exact hT|exact ZI hT _)).mono ?_;rintro e w1 ⟨rfl,hb1⟩;have hz1:=Z9 hb1;have HB1:=hb1.mono (B':=w.heap.size+1) (by simp);obtain⟨hc0,hc1,hf0,hf1,hlt1⟩:=Zax HB1)
 refine(Zco _ _ _).mono ?_;rintro e w2 ⟨rfl,hb2⟩;have hz2:=Z9 hb2;have HB2:=(HB1.alloc (by omega) _).trans (hb2.mono (by simp;omega));clear hb1 hc0 hc1 hf0 hf1 hlt1 hb2;go_wp2_with (at_make;refine wpList_make_own _ rfl _ _ 308 rfl (w.heap.size+1) 21 i0 (.int .i32 0) 1 Tryz.underlying308 hi iz0 iz1 .i64 .i64 _ ps.length rfl rfl rfl (by rw [iz2];omega) (by unfold maxLen;omega) (by omega) ?_;intro w3 hown hgrow)
 have HB3:=HB2.grown hgrow (by omega) (by simp);have hz3:=hgrow.size;have hown':=hown.alloc (.stringIter s 0);have hit:=World.iter_heap w3 s 0;clear hown hgrow HB2 HB1;go_loopw [6] (fun v wr=>Zov ps s w (.cells #[.int .i64 0,.int .i64 0] 62) w3.heap.size v wr) (fun _ wr=>s.size+1 - wr.iterPos w3.heap.size)
 case atStart=>exact⟨0,0,Run.zero _,hit,hown',HB3.alloc (by omega) _⟩
 case round=>
  obtain⟨k,i,hrun,hK,hownk,hbk⟩:=hrel;have hle:=hrun.le hp;have hKlt:=Zff hK;by_cases hk:k<ps.length
  · obtain⟨p,n,hst,hrun',hn1,hn4,hin,hp0,hp1,_⟩:=hrun.step hp hk;have hstep:=fun ty=>Zgo (P:=Tryz.prog) hst (by omega) wr w3.heap.size hK ty;have hown1:=Zib hownk hK (i+n);have hK1:=Lib.iterAt_heap wr w3.heap.size s i (i+n) hK;have hb1:=Lib.below_iterAt hbk (k:=w3.heap.size) (by omega) s (i+n);have hsz1:(wr.iterAt w3.heap.size s (i+n)).heap.size=wr.heap.size:=Lib.iterAt_size _ _ _ _;have hpos:=ZcV hK;have hcell:=cell_one_new (wr.iterAt w3.heap.size s (i+n)) (.int .i32 p) 21;rw [hsz1] at hcell;have hw4:w.heap.size+1≤((wr.iterAt w3.heap.size s (i+n)).alloc (.cells #[.int .i32 p] 21)).heap.size:=by simp;omega
    have hnext:Hid ((ps.take (k+1)).map (Value.int .i32)=(ps.take k).map (Value.int .i32)++[.int .i32 p]):=by
     rw [hst.snoc hk,List.map_append];rfl
    have hK2:=Below.heap_alloc (wr.iterAt w3.heap.size s (i+n)) (.cells #[.int .i32 p] 21) w3.heap.size (by omega);rw [hK1] at hK2;clear hown';go_wp2_with (at_builtin;refine wpList_append_own _ rfl _ _ 308 rfl (w.heap.size+1) 21 i0 (.int .i32 0) 1 4 Tryz.underlying308 hi iz0 iz1 iz2 rfl (by decide) u6 k _ rfl (hown1.alloc _) ⟨wr.heap.size,0,none⟩ 1 1 [.int .i32 p] rfl rfl hcell (by intro u hu;simp at hu;subst hu;rfl) (by unfold maxLen;omega) (by omega) hw4 ?_;intro v' w5 hown5 hg5 _)
    have hK5:=(hg5.block w3.heap.size (by simp;omega) (ZhU hownk hK)).trans hK2;rw [←hnext.out] at hown5;have hb5:=Zaa (hb1.alloc (by omega) (.cells #[.int .i32 p] 21)) (hown1.alloc _) hg5 hw4 (Nat.le_refl _);refine⟨⟨k+1,i+n,hrun',hK5,hown5,hb5⟩,?_⟩;rw [hpos,ZcV hK5];omega
  · have hk2:k=ps.length:=by omega
    subst hk2;obtain⟨hi,_,hie⟩:=hrun.end_ hp;have hend:=fun ty=>Lib.run_next_end_at (P:=Tryz.prog) wr w3.heap.size s i ty hK (by simp at hie;omega);obtain⟨hc0,hc1,hf0,hf1,hlt1⟩:=Zax hbk;rw [List.take_length] at hownk;clear hown';go_wp2_with fail
    obtain⟨A,c,hv,hcap,_,_⟩:=ZaP.of_own hownk;have hownF:=ownsRow_setCell_below (ownsRow_setCell_below hownk (a:=⟨w.heap.size,0,none⟩) (Nat.lt_succ_self _) (.int .i64 0)) (a:=⟨w.heap.size,1,none⟩) (Nat.lt_succ_self _) (.int .i64 0);subst hv;obtain⟨A',c',hv',_,_,hnF⟩:=ZaP.of_own hownF;simp only [Value.slice.injEq] at hv';obtain⟨rfl,_,_⟩:=hv';refine bodyPost_ret (v:= .tuple #[.slice A ps.length c,.agg #[.int .i64 0,.int .i64 0]]) (by simp [results,Tryz.results276,go_sem,hc0,hc1]) rfl ⟨A,c,rfl,hcap,hnF,fun ad had=>by subst had;have:=(hownF.lt _ rfl).1;exact⟨by omega,ZlI hownF,Zsl hownF⟩,?_⟩;exact(((((Below.refl _ w).alloc (Nat.le_refl _) _).trans (hbk.mono (by omega))).setCell (Nat.le_refl _) _).setCell (Nat.le_refl _) _)
theorem Zow (s:ByteArray)(n:Nat)(hg:Za3 s n)(hs:s.size≤35184372088000)(w:World)(hT:Zk w):
 Calls Tryz.prog 276 #[.string s] w fun e w'=>e= .returned (.tuple #[.slice none 0 0,.agg #[.int .i64 2,.int .i64 n]])∧Below w.heap.size w w':=by
 go_enter Tryz.func276,Tryz.ntmps276
 go_wp2_with (go_at_call 212;refine(Ziu s n hg (by omega) _ (by first|exact hT|exact ZI hT _)).mono ?_;rintro e w1 ⟨rfl,hb1⟩;have hz1:=Z9 hb1;have HB1:=hb1.mono (B':=w.heap.size+1) (by simp);obtain⟨hc0,hc1,hf0,hf1,hlt1⟩:=Zax HB1)
 refine(Zco _ _ _).mono ?_;rintro e w2 ⟨rfl,hb2⟩;have hz2:=Z9 hb2;have HB2:=(HB1.alloc (by omega) _).trans (hb2.mono (by simp;omega));have hbx:=Zax (hb2.mono (by simp));obtain⟨hd0,hd1,he0,he1,hlt2⟩:=hbx;clear hc0 hc1 hf0 hf1;obtain⟨hc0,hc1,hf0,hf1,hlt3⟩:=Zax HB2;go_wp2_with fail
 go_region
 go_wp2_with fail
 refine bodyPost_ret (v:= .tuple #[.slice none 0 0,.agg #[.int .i64 2,.int .i64 n]]) (by simp [results,Tryz.results276,go_sem,hc0,hc1]) rfl ⟨rfl,?_⟩;exact(((((Below.refl _ w).alloc (Nat.le_refl _) _).trans (HB2.mono (by omega))).setCell (Nat.le_refl _) _).setCell (Nat.le_refl _) _).drew
theorem ZjK (s:ByteArray)(hs:s.size≤140737488355328)(w:World)(hT:Zk w):
 Calls Tryz.prog 34 #[.string s] w fun e w'=>e= .returned (.bool (Lib.validD s.data.toList))∧Below w.heap.size w w':=by
 have hv:=Any.utf8_ValidString Tryz.laysValid s w (by omega) hT;go_enter Tryz.func34,Tryz.ntmps34
 go_wp2_with (go_at_call 86;refine hv.mono ?_;rintro e w1 ⟨rfl,hb1⟩)
 go_ret
 exact⟨rfl,hb1⟩
end Go.Proofs.YtecandjkbbpooaaGreatDoor
namespace Go.Proofs.YtecandjkbbpooaaGreatDoor
open Go
def Zs (big:Bool)(a b:UInt8):Int:=if big then(a.toNat:Int)*256+b.toNat else(b.toNat:Int)*256+a.toNat
def Zu (big:Bool):List UInt8→Int×Nat
 |a::b::r=>
  if Zs big a b<55296∨57344≤Zs big a b then(Zs big a b,2)
  else if 56320≤Zs big a b then(0,0)
  else match r with
   |c::d::_=>if Zs big c d<56320∨57344≤Zs big c d then(0,0) else(65536+(Zs big a b - 55296)*1024+(Zs big c d - 56320),4)
   |_=>(0,0)
 |_=>(0,0)
def two (big:Bool)(u:Int):List UInt8:=if big then [(u / 256).toNat.toUInt8,(u % 256).toNat.toUInt8] else [(u % 256).toNat.toUInt8,(u / 256).toNat.toUInt8]
def Zaz (big:Bool)(p:Int):List UInt8:=if p<65536 then two big p else two big (55296+(p - 65536) / 1024)++two big (56320+(p - 65536) % 1024)
def Zr (big:Bool)(ps:List Int):List UInt8:=ps.flatMap (Zaz big)
theorem ZeP (big:Bool):Zr big []=[]:=rfl
theorem Zdz (big:Bool)(p:Int)(ps:List Int):Zr big (p::ps)=Zaz big p++Zr big ps:=rfl
theorem ZiS (big:Bool)(a b:List Int):Zr big (a++b)=Zr big a++Zr big b:=by simp [Zr]
theorem ZgM (big:Bool)(a b:UInt8):0≤Zs big a b∧Zs big a b<65536:=by
 have:=a.toNat_lt;have:=b.toNat_lt;unfold Zs;split<;>omega
theorem ZgL (big:Bool){u:Int} (h0:0≤u)(h1:u<65536):∃a b,two big u=[a,b]∧Zs big a b=u:=by
 cases big
 · refine⟨_,_,rfl,?_⟩;simp only [Zs,Bool.false_eq_true,if_false,ZbH (u / 256) (by omega) (by omega),ZbH (u % 256) (by omega) (by omega)];omega
 · refine⟨_,_,rfl,?_⟩;simp only [Zs,if_true,ZbH (u / 256) (by omega) (by omega),ZbH (u % 256) (by omega) (by omega)];omega
theorem ZiG (big:Bool)(a b:UInt8):two big (Zs big a b)=[a,b]:=by
 have:=a.toNat_lt;have:=b.toNat_lt;cases big<;>simp only [two,Zs,Bool.false_eq_true,if_false,if_true,List.cons.injEq,and_true]<;>exact⟨ZbX (by omega),ZbX (by omega)⟩
theorem ZtY (big:Bool)(u:Int):(two big u).length=2:=by unfold two;split<;>rfl
theorem ZgN (big:Bool)(p:Int):(Zaz big p).length=if p<65536 then 2 else 4:=by
 unfold Zaz;split<;>simp [ZtY]
theorem Zfz (big:Bool)(p:Int):2≤(Zaz big p).length∧(Zaz big p).length≤4:=by
 rw [ZgN];split<;>omega
theorem Zm7 (big:Bool)(p:Int):Zaz big p≠[]:=by
 intro h;have:=(Zfz big p).1;rw [h] at this;simp at this
theorem Znd (big:Bool){p:Int} (h:Zv p=true)(t:List UInt8):Zu big (Zaz big p++t)=(p,(Zaz big p).length):=by
 rw [ZaN] at h;rw [ZgN];unfold Zaz;by_cases hp:p<65536
 · rw [if_pos hp,if_pos hp];obtain⟨a,b,e,hu⟩:=ZgL big (u:=p) (by omega) hp;rw [e];simp only [List.cons_append,List.nil_append,Zu,hu];rw [if_pos (by omega)]
 · rw [if_neg hp,if_neg hp];obtain⟨a,b,e,hu⟩:=ZgL big (u:=55296+(p - 65536) / 1024) (by omega) (by omega);obtain⟨c,d,e2,hv⟩:=ZgL big (u:=56320+(p - 65536) % 1024) (by omega) (by omega);rw [e,e2];simp only [List.cons_append,List.nil_append,Zu,hu,hv];rw [if_neg (by omega),if_neg (by omega),if_neg (by omega)];exact Prod.ext (by simp only;omega) rfl
theorem Zul (big:Bool){l:List UInt8} (he:(Zu big l).2≠0):∃t,l=Zaz big (Zu big l).1++t∧Zv (Zu big l).1=true∧(Zaz big (Zu big l).1).length=(Zu big l).2:=by
 match l with
 |[]=>exact absurd rfl he
 |[_]=>exact absurd rfl he
 |a::b::r=>
  have hu:=ZgM big a b;by_cases h1:Zs big a b<55296∨57344≤Zs big a b
  · simp only [Zu,if_pos h1];refine⟨r,?_,by rw [ZaN];omega,by rw [ZgN,if_pos (by omega)]⟩;rw [Zaz,if_pos (by omega),ZiG];rfl
  · by_cases h2:56320≤Zs big a b
    · simp only [Zu,if_neg h1,if_pos h2] at he;exact absurd rfl he
    · match r with
      |[]=>simp only [Zu,if_neg h1,if_neg h2] at he;exact absurd rfl he
      |[_]=>simp only [Zu,if_neg h1,if_neg h2] at he;exact absurd rfl he
      |c::d::r=>
       have hv:=ZgM big c d;by_cases h3:Zs big c d<56320∨57344≤Zs big c d
       · simp only [Zu,if_neg h1,if_neg h2,if_pos h3] at he;exact absurd rfl he
       · simp only [Zu,if_neg h1,if_neg h2,if_neg h3];refine⟨r,?_,by rw [ZaN];omega,by rw [ZgN,if_neg (by omega)]⟩;rw [Zaz,if_neg (by omega)];have e1:55296+(65536+(Zs big a b - 55296)*1024+(Zs big c d - 56320) - 65536) / 1024=Zs big a b:=by omega
         have e2:56320+(65536+(Zs big a b - 55296)*1024+(Zs big c d - 56320) - 65536) % 1024=Zs big c d:=by omega
         rw [e1,e2,ZiG,ZiG];rfl
def ZdH (big:Bool)(s:ByteArray)(ps:List Int)(r:List UInt8):Prop:=s.data.toList=Zr big ps++r∧∀p∈ps,Zv p=true
def Zee (big:Bool)(s:ByteArray)(ps:List Int):Prop:=ZdH big s ps []
def Ze3 (big:Bool)(s:ByteArray)(n:Nat):Prop:=∃ps r,ZdH big s ps r∧n=(Zr big ps).length∧r≠[]∧(Zu big r).2=0
def Za7 (big:Bool)(ps:List Int)(k i:Nat):Prop:=k≤ps.length∧i=(Zr big (ps.take k)).length
theorem ZmP (big:Bool):∀n (l:List UInt8),l.length≤n→∃ps r,l=Zr big ps++r∧(∀p∈ps,Zv p=true)∧(r=[]∨(Zu big r).2=0)
 |0,l,h=>⟨[],[],by simpa [ZeP] using h,by simp,.inl rfl⟩
 |n+1,l,h=>by
  by_cases he:(Zu big l).2=0
  · exact⟨[],l,by simp [ZeP],by simp,.inr he⟩
  obtain⟨t,ht,hs,_⟩:=Zul big he;have hlt:t.length≤n:=by
   have h1:=congrArg List.length ht;rw [List.length_append] at h1;have:=(Zfz big (Zu big l).1).1;omega
  obtain⟨ps,r,h1,h2,h3⟩:=ZmP big n t hlt;refine⟨(Zu big l).1::ps,r,?_,?_,h3⟩
  · rw [Zdz,List.append_assoc,←h1];exact ht
  · intro p hp;rcases List.mem_cons.1 hp with rfl|hp
    · exact hs
    · exact h2 p hp
theorem Zue (big:Bool)(s:ByteArray):(∃ps,Zee big s ps)∨∃n,Ze3 big s n:=by
 obtain⟨ps,r,h1,h2,h3⟩:=ZmP big _ s.data.toList (Nat.le_refl _);by_cases hr:r=[]
 · subst hr;exact .inl ⟨ps,h1,h2⟩
 · exact .inr ⟨_,ps,r,⟨h1,h2⟩,rfl,hr,h3.resolve_left hr⟩
theorem Za7.zero (big:Bool)(ps:List Int):Za7 big ps 0 0:=⟨Nat.zero_le _,rfl⟩
theorem Za7.drop {big:Bool} {s:ByteArray} {ps:List Int} {r:List UInt8} {k i:Nat} (hp:ZdH big s ps r)(h:Za7 big ps k i):s.data.toList.drop i=Zr big (ps.drop k)++r:=by
 have e:Zr big ps=Zr big (ps.take k)++Zr big (ps.drop k):=by rw [←ZiS,List.take_append_drop]
 rw [hp.1,e,List.append_assoc,h.2,List.drop_left]
theorem Za7.next {big:Bool} {ps:List Int} {k i:Nat} (h:Za7 big ps k i)(hk:k<ps.length):Za7 big ps (k+1) (i+(Zaz big (ps.getD k 0)).length):=
 ⟨hk,by rw [ZeJ hk,ZiS,List.length_append,←h.2,Zdz,ZeP,List.append_nil]⟩
theorem Za7.end_ {big:Bool} {s:ByteArray} {ps:List Int} {r:List UInt8} {i:Nat} (hp:ZdH big s ps r)(h:Za7 big ps ps.length i):i=(Zr big ps).length∧s.data.toList.drop i=r∧i+r.length=s.size:=by
 have hd:=h.drop hp;rw [List.drop_length,ZeP,List.nil_append] at hd;have h2:=h.2;rw [List.take_length] at h2;refine⟨h2,hd,?_⟩;have hl:=congrArg List.length hp.1;rw [List.length_append] at hl;have hs:s.data.toList.length=s.size:=by simp
 omega
theorem Zfg (big:Bool)(ps:List Int):2*ps.length≤(Zr big ps).length∧(Zr big ps).length≤4*ps.length:=by
 induction ps with
 |nil=>simp [ZeP]
 |cons p ps ih=>
  have:=Zfz big p;rw [Zdz,List.length_append,List.length_cons];omega
theorem Za7.le {big:Bool} {s:ByteArray} {ps:List Int} {r:List UInt8} {k i:Nat} (hp:ZdH big s ps r)(h:Za7 big ps k i):2*k≤i∧i≤s.size∧k≤ps.length:=by
 have h1:=(Zfg big (ps.take k)).1;rw [List.length_take,←h.2] at h1;have h0:=h.1;have hl:=congrArg List.length hp.1;have e:Zr big ps=Zr big (ps.take k)++Zr big (ps.drop k):=by rw [←ZiS,List.take_append_drop]
 rw [e,List.length_append,List.length_append,←h.2] at hl;have hs:s.data.toList.length=s.size:=by simp
 omega
def ZdI (big:Bool)(s:ByteArray)(ps:List Int)(k i:Nat)(p:Int)(n:Nat):Prop:=
 (∃t,s.data.toList.drop i=Zaz big p++t)∧n=(Zaz big p).length∧p=ps.getD k 0∧Zv p=true
theorem Za7.step {big:Bool} {s:ByteArray} {ps:List Int} {r:List UInt8} {k i:Nat} (hp:ZdH big s ps r)(h:Za7 big ps k i)(hk:k<ps.length):
 ∃(p:Int) (n:Nat),ZdI big s ps k i p n∧Za7 big ps (k+1) (i+n)∧2≤n∧n≤4∧i+n≤s.size∧0≤p∧p≤1114111:=by
 have hd:=h.drop hp;rw [Zkv hk,Zdz,List.append_assoc] at hd;have hl:=congrArg List.length hd;rw [List.length_drop,List.length_append] at hl;have h1:=Zfz big (ps.getD k 0);have hs:s.data.toList.length=s.size:=by simp
 have hsc:=hp.2 _ (Zge hk);have h4:=ZaN.1 hsc;exact⟨_,_,⟨⟨_,hd⟩,rfl,rfl,hsc⟩,h.next hk,h1.1,h1.2,by omega,h4.1,h4.2.1⟩
theorem ZdI.snoc {big:Bool} {s:ByteArray} {ps:List Int} {k i n:Nat} {p:Int} (h:ZdI big s ps k i p n)(hk:k<ps.length):ps.take (k+1)=ps.take k++[p]:=by
 rw [ZeJ hk,h.2.2.1]
theorem ZdI.sign {big:Bool} {s:ByteArray} {ps:List Int} {k i n:Nat} {p:Int} (h:ZdI big s ps k i p n):Zu big (s.data.toList.drop i)=(p,n):=by
 obtain⟨⟨t,ht⟩,hn,_,hs⟩:=h;rw [ht,Znd big hs,hn]
theorem Zuf (big:Bool){ps:List Int} (h:∀p∈ps,Zv p=true):Zee big ⟨(Zr big ps).toArray⟩ ps:=⟨by simp,h⟩
end Go.Proofs.YtecandjkbbpooaaGreatDoor
