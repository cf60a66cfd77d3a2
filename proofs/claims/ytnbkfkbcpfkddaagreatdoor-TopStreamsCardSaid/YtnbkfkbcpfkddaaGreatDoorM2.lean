/- Lemmas for a statement on the tops; conditions: as each says. -/
import Derived.Lib.IndexBytes
import Derived.Test.YtnbkfkbcpfkddaaGreatDoorRows
import Derived.WalkSpells
import Derived.Outline
import Derived.Deep.DeepFit
import Derived.Lib.Index
import Derived.Lib.OthersKept
import Derived.LoopN
import Derived.Lib.ValidU
import Derived.Test.YtnbkfkbcpfkddaaGreatDoorM1
set_option linter.unusedVariables false
set_option linter.unusedSimpArgs false
set_option maxRecDepth 100000
set_option maxHeartbeats 200000
namespace Go.Proofs.YtnbkfkbcpfkddaaGreatDoor
open Go Go.RowKit
def Pre (s:ByteArray)(ps:List Int)(r:List UInt8):Prop:=s.data.toList=Zd ps++r∧∀p∈ps,Zv p=true
def Run (ps:List Int)(k i:Nat):Prop:=k≤ps.length∧i=(Zd (ps.take k)).length
theorem Good.pre {s:ByteArray} {ps:List Int} (h:Good s ps):Pre s ps []:=⟨by simpa using h.1,h.2⟩
theorem ZaI.pre {s:ByteArray} {n:Nat} (h:ZaI s n):∃ps r,Pre s ps r∧n=(Zd ps).length∧r≠[]∧ZaK (Zx r):=by
 obtain⟨ps,r,h1,h2,h3,h4,h5⟩:=h;exact⟨ps,r,⟨h1,h2⟩,h3,h4,h5⟩
theorem Run.zero (ps:List Int):Run ps 0 0:=⟨Nat.zero_le _,rfl⟩
theorem Zgt {ps:List Int} {k:Nat} (h:k<ps.length):ps.getD k 0∈ps:=by
 rw [List.getD_eq_getElem?_getD,List.getElem?_eq_getElem h];exact List.getElem_mem h
theorem ZnL {ps:List Int} {k:Nat} (h:k<ps.length):ps.drop k=ps.getD k 0::ps.drop (k+1):=by
 rw [List.drop_eq_getElem_cons h,List.getD_eq_getElem?_getD,List.getElem?_eq_getElem h];rfl
theorem Zfk {ps:List Int} {k:Nat} (h:k<ps.length):ps.take (k+1)=ps.take k++[ps.getD k 0]:=by
 rw [List.take_succ_eq_append_getElem h,List.getD_eq_getElem?_getD,List.getElem?_eq_getElem h];rfl
theorem Run.drop {s:ByteArray} {ps:List Int} {r:List UInt8} {k i:Nat} (hp:Pre s ps r)(h:Run ps k i):s.data.toList.drop i=Zd (ps.drop k)++r:=by
 have e:Zd ps=Zd (ps.take k)++Zd (ps.drop k):=by rw [←Zfn,List.take_append_drop]
 rw [hp.1,e,List.append_assoc,h.2,List.drop_left]
theorem Run.next {ps:List Int} {k i:Nat} (h:Run ps k i)(hk:k<ps.length):Run ps (k+1) (i+(Lib.encodeRune (ps.getD k 0)).length):=
 ⟨hk,by rw [Zfk hk,Zfn,List.length_append,←h.2,Zap,Zbi,List.append_nil]⟩
theorem Run.head {s:ByteArray} {ps:List Int} {r:List UInt8} {k i:Nat} (hp:Pre s ps r)(h:Run ps k i)(hk:k<ps.length):
 ∃t,s.data.toList.drop i=Lib.encodeRune (ps.getD k 0)++t∧Zv (ps.getD k 0)=true∧i<s.size∧i+(Lib.encodeRune (ps.getD k 0)).length≤s.size:=by
 have hd:=h.drop hp;rw [ZnL hk,Zap,List.append_assoc] at hd;have hl:=congrArg List.length hd;rw [List.length_drop,List.length_append] at hl;have h1:=(ZbW (ps.getD k 0)).1;have hs:s.data.toList.length=s.size:=by simp
 rw [hs] at hl;exact⟨_,hd,hp.2 _ (Zgt hk),by omega,by omega⟩
theorem Run.end_ {s:ByteArray} {ps:List Int} {r:List UInt8} {i:Nat} (hp:Pre s ps r)(h:Run ps ps.length i):i=(Zd ps).length∧s.data.toList.drop i=r∧i+r.length=s.size:=by
 have hd:=h.drop hp;rw [List.drop_length,Zbi,List.nil_append] at hd;have h2:=h.2;rw [List.take_length] at h2;refine⟨h2,hd,?_⟩;have hl:=congrArg List.length hp.1;rw [List.length_append] at hl;have hs:s.data.toList.length=s.size:=by simp
 omega
theorem Run.le {s:ByteArray} {ps:List Int} {r:List UInt8} {k i:Nat} (hp:Pre s ps r)(h:Run ps k i):k≤i∧i≤s.size∧k≤ps.length:=by
 have h1:=(Zch (ps.take k)).1;rw [List.length_take,←h.2] at h1;have h0:=h.1;have hl:=congrArg List.length hp.1;have e:Zd ps=Zd (ps.take k)++Zd (ps.drop k):=by rw [←Zfn,List.take_append_drop]
 rw [e,List.length_append,List.length_append,←h.2] at hl;have hs:s.data.toList.length=s.size:=by simp
 omega
theorem extract_all (s:ByteArray)(i:Nat):(s.extract i s.size).data.toList=s.data.toList.drop i:=Lib.extract_to_end s i
theorem ZiM (s:ByteArray)(i:Nat)(h:i<s.size):Lib.decodeGo (s.extract i s.size)=Zx (s.data.toList.drop i):=by
 have e:=extract_all s i;have hz:(s.extract i s.size).size=s.size - i:=by
  have h2:=congrArg List.length e;have h3:(s.extract i s.size).data.toList.length=(s.extract i s.size).size:=by simp
  have h4:s.data.toList.length=s.size:=by simp
  rw [h3,List.length_drop,h4] at h2;exact h2
 unfold Lib.decodeGo;rw [if_neg (by omega),Zgh,e,List.drop_zero]
def Step (s:ByteArray)(ps:List Int)(k i:Nat)(p:Int)(n:Nat):Prop:=
 (∃t,s.data.toList.drop i=Lib.encodeRune p++t)∧n=(Lib.encodeRune p).length∧p=ps.getD k 0∧Zv p=true
theorem Run.step {s:ByteArray} {ps:List Int} {r:List UInt8} {k i:Nat} (hp:Pre s ps r)(h:Run ps k i)(hk:k<ps.length):
 ∃(p:Int) (n:Nat),Step s ps k i p n∧Run ps (k+1) (i+n)∧1≤n∧n≤4∧i+n≤s.size∧0≤p∧p≤1114111∧((p==65533)=false∨(p=65533∧2≤n)):=by
 obtain⟨t,hd,hs,hi,hi2⟩:=h.head hp hk;have h4:=Za1.1 hs;have h5:=ZbW (ps.getD k 0);refine⟨_,_,⟨⟨t,hd⟩,rfl,rfl,hs⟩,h.next hk,h5.1,h5.2,hi2,h4.1,h4.2.1,?_⟩;by_cases h6:ps.getD k 0=65533
 · right
   rw [h6];exact⟨rfl,by decide⟩
 · left
   simpa using h6
theorem Step.snoc {s:ByteArray} {ps:List Int} {k i n:Nat} {p:Int} (h:Step s ps k i p n)(hk:k<ps.length):ps.take (k+1)=ps.take k++[p]:=by
 rw [Zfk hk,h.2.2.1]
def Zj (w:World):Prop:=Lib.Utf8Tabs 1 2 w
theorem ZcU (e a:Int)(w:World):
 Calls Tryz.prog 8 #[.agg #[.int .i64 e,.int .i64 a]] w fun x w'=>x= .returned (.bool (e !=0))∧Below w.heap.size w w':=by
 go_enter Tryz.func8,Tryz.ntmps8
 go_wp2
 go_ret
 exact⟨rfl,(Below.refl _ _).alloc (Nat.le_refl _) _⟩
theorem ZlS (s:ByteArray)(i:Nat)(p:Int)(t:List UInt8)(hd:s.data.toList.drop i=Lib.encodeRune p++t)(hp:Zv p=true)(w:World)(hT:Zj w):
 Calls Tryz.prog 238 #[.string (s.extract i s.size)] w fun e w'=>e= .returned (.tuple #[.int .i32 p,.int .i64 (Lib.encodeRune p).length])∧Below w.heap.size w w':=by
 have hi:i<s.size:=by
  have h1:=congrArg List.length hd;have h2:=(ZbW p).1;have h4:s.data.toList.length=s.size:=by simp
  rw [List.length_drop,List.length_append,h4] at h1;omega
 have h:=Tryz.utf8_DecodeRuneInString (s.extract i s.size) w hT;rw [ZiM s i hi,hd,Zc2 hp] at h;have e:((p.toNat:Nat):Int)=p:=by have:=Za1.1 hp;omega
 simp only [e] at h;exact h
theorem ZlR (s:ByteArray)(i:Nat)(hi:i<s.size)(hd:ZaK (Zx (s.data.toList.drop i)))(w:World)(hT:Zj w):
 Calls Tryz.prog 238 #[.string (s.extract i s.size)] w fun e w'=>(∃n:Nat,n≤1∧e= .returned (.tuple #[.int .i32 65533,.int .i64 n]))∧Below w.heap.size w w':=by
 have h:=Tryz.utf8_DecodeRuneInString (s.extract i s.size) w hT;rw [ZiM s i hi] at h;refine h.mono fun e w' ⟨he,hb⟩=>⟨⟨_,hd.2,?_⟩,hb⟩
 rw [he,hd.1];rfl
theorem ZU {w w':World} (h:Zj w){B:Nat} (hb:Below B w w')(hB:w.heap.size≤B):Zj w':=Utf8Tabs_below h (hb.mono hB)
def ZmI (ps:List Int)(w0:World)(n at_:Value)(wr:World):Prop:=
 ∃k i:Nat,n= .int .i64 k∧at_= .int .i64 i∧Run ps k i∧Below (w0.heap.size+1) (w0.alloc (.cells #[.int .i64 0,.int .i64 0] 45)) wr
theorem ZlT {s:ByteArray} {ps:List Int} {k i n:Nat} {p:Int} (h:Step s ps k i p n)(w:World)(hT:Zj w):
 Calls Tryz.prog 238 #[.string (s.extract i s.size)] w fun e w'=>e= .returned (.tuple #[.int .i32 p,.int .i64 n])∧Below w.heap.size w w':=by
 obtain⟨⟨t,ht⟩,hn,_,hs⟩:=h;subst hn;exact ZlS s i p t ht hs w hT
theorem ZkV (s:ByteArray)(ps:List Int)(r:List UInt8)(hp:Pre s ps r)(hr:r=[]∨ZaK (Zx r))(hs:s.size≤140737488355328)(w:World)(hT:Zj w):
 Calls Tryz.prog 208 #[.string s] w fun e w'=>
  ((r=[]∧e= .returned (.tuple #[.int .i64 ps.length,.agg #[.int .i64 0,.int .i64 0]]))∨(r≠[]∧e= .returned (.tuple #[.int .i64 0,.agg #[.int .i64 2,.int .i64 (Zd ps).length]])))∧Below w.heap.size w w':=by
 go_enter Tryz.func208,Tryz.ntmps208
 go_wp2_with fail
 go_loopw [4,5] (fun n i wr=>ZmI ps w n i wr) (fun _ i _=>s.size - (intOf i).toNat)
 case atStart=>exact⟨0,0,rfl,rfl,Run.zero _,Below.refl _ _⟩
 case round=>
  obtain⟨k,i,rfl,rfl,hrun,hb⟩:=hrel;have hle:=hrun.le hp;obtain⟨hc0,hc1,hf0,hf1,hsz⟩:=Zbk hb;have hTr:Zj wr:=ZU (ZU hT (Below.alloc (Below.refl (w.heap.size) w) (Nat.le_refl _) _) (Nat.le_refl _)) hb (by simp);by_cases hk:k<ps.length
  · obtain⟨p,n,hst,hrun',hn1,hn4,hin,_,_,hq⟩:=hrun.step hp hk;rcases hq with hq|⟨rfl,hq⟩
    all_goals
     go_wp2_with (go_at_call 238;refine(ZlT hst _ hTr).mono ?_;rintro e w' ⟨rfl,hb'⟩)
     go_roundw
     case rel=>exact⟨k+1,i+n,by go_num,by go_num,hrun',hb.trans (hb'.mono (by omega))⟩
     case measure=>simp [intOf];omega
  · have hk2:k=ps.length:=by omega
    subst hk2;obtain⟨hi,hdr,hir⟩:=hrun.end_ hp;by_cases hr0:r=[]
    · have hge:¬i<s.size:=by rw [hr0] at hir;simp at hir;omega
      clear hdr hir hi;go_wp2_with fail
      refine bodyPost_ret (v:= .tuple #[.int .i64 ps.length,.agg #[.int .i64 0,.int .i64 0]]) (by simp [results,Tryz.results208,go_sem,hc0,hc1]) rfl ⟨.inl ⟨hr0,rfl⟩,?_⟩;exact(((((Below.refl _ w).alloc (Nat.le_refl _) _).trans (hb.mono (by omega))).setCell (Nat.le_refl _) _).setCell (Nat.le_refl _) _)
    · have hlt:i<s.size:=by have:=List.length_pos_iff.2 hr0;omega
      have he:ZaK (Zx (s.data.toList.drop i)):=by rw [hdr];exact hr.resolve_left hr0
      have Hi:=Lib.hid hi;clear hdr hir hi;go_wp2_with (go_at_call 238;refine(ZlR s i hlt he _ hTr).mono ?_;rintro e w' ⟨⟨n,hn,rfl⟩,hb'⟩;have hb2:=hb'.mono (B':=w.heap.size+1) (by omega);have hb3:=hb.trans hb2;obtain⟨hc0',hc1',hf0',hf1',hsz'⟩:=Zbk hb3)
      rw [Hi.out];refine bodyPost_ret (v:= .tuple #[.int .i64 0,.agg #[.int .i64 2,.int .i64 (Zd ps).length]]) (by simp [results,Tryz.results208,go_sem,hc0',hc1']) rfl ⟨.inr ⟨hr0,rfl⟩,?_⟩;exact(((((Below.refl _ w).alloc (Nat.le_refl _) _).trans (hb3.mono (by omega))).setCell (Nat.le_refl _) _).setCell (Nat.le_refl _) _)
theorem Zhc (s:ByteArray)(ps:List Int)(hg:Good s ps)(hs:s.size≤140737488355328)(w:World)(hT:Zj w):
 Calls Tryz.prog 208 #[.string s] w fun e w'=>e= .returned (.tuple #[.int .i64 ps.length,.agg #[.int .i64 0,.int .i64 0]])∧Below w.heap.size w w':=
 (ZkV s ps [] hg.pre (.inl rfl) hs w hT).mono fun _ _ ⟨h,hb⟩=>by
  rcases h with⟨_,h⟩|⟨h,_⟩
  · exact⟨h,hb⟩
  · exact absurd rfl h
theorem Zhb (s:ByteArray)(n:Nat)(hg:ZaI s n)(hs:s.size≤140737488355328)(w:World)(hT:Zj w):
 Calls Tryz.prog 208 #[.string s] w fun e w'=>e= .returned (.tuple #[.int .i64 0,.agg #[.int .i64 2,.int .i64 n]])∧Below w.heap.size w w':=by
 obtain⟨ps,r,hp,rfl,hr,he⟩:=hg.pre;refine(ZkV s ps r hp (.inr he) hs w hT).mono fun _ _ ⟨h,hb⟩=> ?_;rcases h with⟨h,_⟩|⟨_,h⟩
 · exact absurd h hr
 · exact⟨h,hb⟩
theorem ZG {w:World} (h:Zj w)(o:Obj):Zj (w.alloc o):=ZU h ((Below.refl _ _).alloc (Nat.le_refl _) _) (Nat.le_refl _)
theorem ZhH (s:ByteArray)(ps:List Int)(hg:Good s ps)(hs:s.size≤140737488355328)(w:World)(hT:Zj w):
 Calls Tryz.prog 133 #[.string s] w fun e w'=>e= .returned (.agg #[.int .i64 0,.int .i64 0])∧Below w.heap.size w w':=by
 go_enter Tryz.func133,Tryz.ntmps133
 go_wp2_with (go_at_call 208;refine(Zhc s ps hg hs _ (by first|exact hT|exact ZG hT _)).mono ?_;rintro e w1 ⟨rfl,hb1⟩;have hz0:=hb1.size;try (obtain⟨hc0,hc1,hf0,hf1,hz1⟩:=Zbk (hb1.mono (by simp))))
 refine bodyPost_ret (v:= .agg #[.int .i64 0,.int .i64 0]) (by simp [results,Tryz.results133,go_sem,hc0,hc1,hz1]) rfl ⟨rfl,?_⟩
 (repeat (first|exact Zh hb1|exact hb1|refine Below.alloc ?_ (by first|exact Nat.le_refl _|exact hz0|(simp;done)|(simp;omega)) _|refine Below.setCell ?_ (by first|exact Nat.le_refl _|exact hz0|(simp;done)|(simp;omega)) _))
theorem ZlL (s:ByteArray)(n:Nat)(hg:ZaI s n)(hs:s.size≤140737488355328)(w:World)(hT:Zj w):
 Calls Tryz.prog 133 #[.string s] w fun e w'=>e= .returned (.agg #[.int .i64 2,.int .i64 n])∧Below w.heap.size w w':=by
 go_enter Tryz.func133,Tryz.ntmps133
 go_wp2_with (go_at_call 208;refine(Zhb s n hg hs _ (by first|exact hT|exact ZG hT _)).mono ?_;rintro e w1 ⟨rfl,hb1⟩;have hz0:=hb1.size;try (obtain⟨hc0,hc1,hf0,hf1,hz1⟩:=Zbk (hb1.mono (by simp))))
 refine bodyPost_ret (v:= .agg #[.int .i64 2,.int .i64 n]) (by simp [results,Tryz.results133,go_sem,hc0,hc1,hz1]) rfl ⟨rfl,?_⟩
 (repeat (first|exact Zh hb1|exact hb1|refine Below.alloc ?_ (by first|exact Nat.le_refl _|exact hz0|(simp;done)|(simp;omega)) _|refine Below.setCell ?_ (by first|exact Nat.le_refl _|exact hz0|(simp;done)|(simp;omega)) _))
theorem ZhI (s:ByteArray)(ps:List Int)(hg:Good s ps)(hs:s.size≤140737488355328)(w:World)(hT:Zj w):
 Calls Tryz.prog 342 #[.string s] w fun e w'=>e= .returned (.int .i64 ps.length)∧Below w.heap.size w w':=by
 go_enter Tryz.func342,Tryz.ntmps342
 go_wp2_with (go_at_call 208;refine(Zhc s ps hg hs _ (by first|exact hT|exact ZG hT _)).mono ?_;rintro e w1 ⟨rfl,hb1⟩;have hz0:=hb1.size;try (obtain⟨hc0,hc1,hf0,hf1,hz1⟩:=Zbk (hb1.mono (by simp))))
 go_ret
 exact⟨rfl,by(repeat (first|exact Zh hb1|exact hb1|refine Below.alloc ?_ (by first|exact Nat.le_refl _|exact hz0|(simp;done)|(simp;omega)) _|refine Below.setCell ?_ (by first|exact Nat.le_refl _|exact hz0|(simp;done)|(simp;omega)) _))⟩
theorem ZlP (s:ByteArray)(n:Nat)(hg:ZaI s n)(hs:s.size≤140737488355328)(w:World)(hT:Zj w):
 Calls Tryz.prog 342 #[.string s] w fun e w'=>e= .returned (.int .i64 0)∧Below w.heap.size w w':=by
 go_enter Tryz.func342,Tryz.ntmps342
 go_wp2_with (go_at_call 208;refine(Zhb s n hg hs _ (by first|exact hT|exact ZG hT _)).mono ?_;rintro e w1 ⟨rfl,hb1⟩;have hz0:=hb1.size;try (obtain⟨hc0,hc1,hf0,hf1,hz1⟩:=Zbk (hb1.mono (by simp))))
 go_ret
 exact⟨rfl,by(repeat (first|exact Zh hb1|exact hb1|refine Below.alloc ?_ (by first|exact Nat.le_refl _|exact hz0|(simp;done)|(simp;omega)) _|refine Below.setCell ?_ (by first|exact Nat.le_refl _|exact hz0|(simp;done)|(simp;omega)) _))⟩
end Go.Proofs.YtnbkfkbcpfkddaaGreatDoor
namespace Go.Proofs.YtnbkfkbcpfkddaaGreatDoor
open Go
def ZcD (n:Int):UInt8:=if n<10 then(48+n).toNat.toUInt8 else(55+n).toNat.toUInt8
def Zf6 (p:Int):List UInt8:=[ZcD (p / 4096),ZcD (p / 256 % 16),ZcD (p / 16 % 16),ZcD (p % 16),32]
def hexL (ps:List Int):List UInt8:=ps.flatMap Zf6
theorem Zop (p:Int)(ps:List Int):hexL (p::ps)=Zf6 p++hexL ps:=rfl
end Go.Proofs.YtnbkfkbcpfkddaaGreatDoor
namespace Go.Proofs.YtnbkfkbcpfkddaaGreatDoor
open Go Go.RowKit
theorem ZfM (p:Int)(w:World):
 Calls Tryz.prog 323 #[.int .i32 p] w fun e w'=>e= .returned (.bool (Zv p))∧w=w':=by
 go_enter Tryz.func323,Tryz.ntmps323
 go_wp2
 all_goals (go_ret;exact⟨ZpL (by rw [Bool.eq_iff_iff,Za1];simp;try omega),rfl⟩)
theorem Zp3 {p:Int} (h:Zv p=true):Lib.runeLen p=(Lib.encodeRune p).length:=by
 unfold Lib.runeLen;rcases Zjh h with⟨h0,h1⟩|⟨h0,h1⟩|h3|⟨h0,h1⟩
 · rw [Zc5 h0 h1];simp only [List.length_cons,List.length_nil];repeat' split
   all_goals omega
 · rw [ZeH h0 h1];simp only [List.length_cons,List.length_nil];repeat' split
   all_goals omega
 · rw [ZeG h3];simp only [List.length_cons,List.length_nil];repeat' split
   all_goals omega
 · rw [ZeF h0 h1];simp only [List.length_cons,List.length_nil];repeat' split
   all_goals omega
theorem Zmy {p:Int} (h:Zv p=true)(w:World):
 Calls Tryz.prog 324 #[.int .i32 p] w fun e w'=>e= .returned (.int .i64 (Lib.encodeRune p).length)∧w=w':=
 (Tryz.utf8_RuneLen p w).mono fun _ _ ⟨he,hw⟩=>⟨by rw [he,Zp3 h],hw.symm⟩
def ZQ (ps:List Int):List Int:=ps.flatMap Lib.encodeRuneZ
theorem Zhn (a:List Int)(p:Int):ZQ (a++[p])=ZQ a++Lib.encodeRuneZ p:=by simp [ZQ]
theorem Zhm (ps:List Int):(ZQ ps).length=(Zd ps).length:=by
 induction ps with
 |nil=>rfl
 |cons p ps ih=>
  rw [Zap,List.length_append,←ih];simp [ZQ,Lib.encodeRune]
theorem Zhi (ps:List Int):strOfNums (ZQ ps)=⟨(Zd ps).toArray⟩:=by
 unfold strOfNums;congr 2
 induction ps with
 |nil=>rfl
 |cons p ps ih=>
  rw [Zap,←ih];simp [ZQ,Lib.encodeRune]
theorem Zaj.get {w:World} {B:Nat} {k:IntKind} {A:Option Addr} {zs:List Int} {i:Nat} (h:Zaj w B k A zs)(hi:i<zs.length):
 ∃ad p,A=some ad∧ad.block<B∧w.cell? (ad.add i)=some (.int k p)∧Hid (zs.getD i 0=p)∧p∈zs:=by
 obtain⟨ad,e,hb,hc⟩:=h.at_ hi;exact⟨ad,_,e,hb,hc,rfl,Zgt hi⟩
theorem Ziv:(Tryz.prog.info? 5).map (fun i=>(i.zero,i.size,i.bytes))=some (some (.int .u8 0),1,1):=by kernel_rfl
theorem Zp4:(Tryz.prog.info? 21).map (fun i=>(i.zero,i.size,i.bytes))=some (some (.int .i32 0),1,4):=by kernel_rfl
def ZmR (ps:List Int)(w0:World)(b i:Value)(wr:World):Prop:=
 ∃k:Nat,k≤ps.length∧i= .int .i64 k∧wr.ownsRow w0.heap.size 5 1 b (ZQ (ps.take k)).length ((ZQ (ps.take k)).map (Value.int .u8))∧Below w0.heap.size w0 wr
def ZmM (ps:List Int)(sz i:Value):Prop:=∃k:Nat,k≤ps.length∧i= .int .i64 k∧sz= .int .i64 (Zd (ps.take k)).length
theorem ZmS (A:Option Addr)(c:Nat)(ps:List Int)(w:World){B:Nat} (hn:Zaj w B .i32 A ps)(hB:B≤w.heap.size)(hps:∀p∈ps,Zv p=true)(hl:ps.length≤35184372088000):
 Calls Tryz.prog 268 #[.slice A ps.length c] w fun e w'=>e= .returned (.tuple #[.string ⟨(Zd ps).toArray⟩,.bool true])∧Below w.heap.size w w':=by
 obtain⟨i0,hi,hz0,hz1,hz2⟩:=info_parts Ziv;go_enter Tryz.func268,Tryz.ntmps268
 go_wp2_with fail
 go_loop [4,12] (fun sz i=>ZmM ps sz i) (fun _ i=>ps.length - (intOf i).toNat)
 case atStart=>exact⟨0,Nat.zero_le _,rfl,rfl⟩
 case round=>
  obtain⟨k,hk,rfl,rfl⟩:=hrel;have h4:=(Zch (ps.take k)).2;rw [List.length_take] at h4;by_cases hlt:k<ps.length
  · obtain⟨ad,p,rfl,_,hc,hp,hm⟩:=hn.get hlt;have hs:=hps p hm;have hlen:=ZbW p;have hnext:Hid ((Zd (ps.take (k+1))).length=(Zd (ps.take k)).length+(Lib.encodeRune p).length):=by
     rw [Zfk hlt,hp.out,Zlq,List.length_append];rfl
    clear hps hn;go_wp2_with (first|(go_at_call 323;refine(ZfM _ _).mono ?_;rintro e w' ⟨rfl,rfl⟩)|(go_at_call 324;refine(Zmy hs _).mono ?_;rintro e w' ⟨rfl,rfl⟩))
    go_round
    case rel=>exact⟨k+1,by omega,by go_num,by rw [hnext.out];go_num⟩
    case measure=>simp [intOf];omega
  · have hk2:k=ps.length:=by omega
    subst hk2;rw [List.take_length] at h4⊢;clear hlt;go_wp2_with (at_make;refine wpList_make_own _ rfl _ _ 158 rfl w.heap.size 5 i0 (.int .u8 0) 1 Tryz.underlying158 hi hz0 hz1 .i64 .i64 _ (Zd ps).length rfl rfl rfl (by rw [hz2];omega) (by unfold maxLen;omega) (Nat.le_refl _) ?_;intro w1 hown hgrow)
    have hb1:Below w.heap.size w w1:=(Below.refl _ _).grown hgrow (Nat.le_refl _) (by simp);clear hgrow;go_loopw [7,28] (fun b i wr=>ZmR ps w b i wr) (fun _ i _=>ps.length - (intOf i).toNat)
    case atStart=>exact⟨0,Nat.zero_le _,rfl,hown,hb1⟩
    case round=>
     obtain⟨k,hk,rfl,hownk,hbk⟩:=hrel;have hnk:=hn.below (hbk.mono hB);have hsz:=hbk.size;have h4k:=(Zch (ps.take k)).2;rw [List.length_take] at h4k;have hzl:=Zhm (ps.take k);by_cases hlt:k<ps.length
     · obtain⟨ad,p,rfl,_,hc,hp,hm⟩:=hnk.get hlt;have hs:=Za1.1 (hps p hm);have hlen:=ZbW p;have hcap:(ZQ (ps.take k)).length+4≤140737488355328:=by omega
       have hnext:Hid ((ZQ (ps.take (k+1))).map (Value.int .u8)=(ZQ (ps.take k)).map (Value.int .u8)++Lib.runeCells p):=by
        rw [Zfk hlt,hp.out,Zhn,List.map_append];rfl
       have hnext2:Hid ((ZQ (ps.take (k+1))).length=(ZQ (ps.take k)).length+(Lib.runeCells p).length):=by
        have:=congrArg List.length hnext.out;simp only [List.length_map,List.length_append] at this;exact this
       clear hps hn hnk h4k hzl hown;go_wp2_with (go_at_call 161;refine(Tryz.utf8_AppendRune_plain _ _ _ _ p (by omega) (by omega) _ hownk hcap hsz).mono ?_;rintro e w2 ⟨v',rfl,hown2,o,hg2⟩)
       have hb2:Below w.heap.size w w2:=Z3 (hbk.alloc hsz o) (hownk.alloc o) hg2 (by simp;omega) (Nat.le_refl _);rw [←hnext.out,←hnext2.out] at hown2;go_roundw
       case rel=>exact⟨k+1,by omega,by go_num,hown2,hb2⟩
       case measure=>simp [intOf];omega
     · have hk2:k=ps.length:=by omega
       subst hk2;rw [List.take_length] at hownk;clear hlt;have hconv:=ZdH (P:=Tryz.prog) 158 9 5 Tryz.underlying158 Tryz.underlying5 Tryz.underlying9 wr hownk;rw [Zhi] at hconv;go_wp2_with fail
       go_ret2
       exact⟨rfl,hbk⟩
theorem Zkg {w:World} {base:Nat} {e:TypeId} {size:Nat} {v:Value} {n:Nat} {xs:List Value} (h:w.ownsRow base e size v n xs){K:Nat} {s:ByteArray} {i:Nat} (hk:w.heap[K]? =some (.stringIter s i))(j:Nat):
 (w.iterAt K s j).ownsRow base e size v n xs:=by
 refine⟨h.1,?_⟩;rcases h.2 with hn|⟨g,cap,cur,hv,hb,hg,rest⟩
 · exact .inl hn
 · refine .inr ⟨g,cap,cur,hv,hb,?_,rest⟩;have hne:g≠K:=by
    rintro rfl;rw [hg] at hk;cases hk
   rw [Lib.iterAt_other _ _ _ _ _ hne];exact hg
theorem Zjw {w:World} {base:Nat} {e:TypeId} {size:Nat} {v:Value} {n:Nat} {xs:List Value} (h:w.ownsRow base e size v n xs){K:Nat} {s:ByteArray} {i:Nat} (hk:w.heap[K]? =some (.stringIter s i)):some K≠v.ownBlock:=by
 rcases h.2 with⟨rfl,_⟩|⟨g,cap,cur,rfl,hb,hg,rest⟩
 · simp [Value.ownBlock]
 · intro he;have:K=g:=by simpa [Value.ownBlock] using he
   subst this;rw [hg] at hk;cases hk
theorem Zdb {w:World} {K:Nat} {s:ByteArray} {i:Nat} (hk:w.heap[K]? =some (.stringIter s i)):w.iterPos K=i:=by
 simp [World.iterPos,hk]
theorem Zjv {w:World} {K:Nat} {s:ByteArray} {i:Nat} (hk:w.heap[K]? =some (.stringIter s i)):K<w.heap.size:=(Array.getElem?_eq_some_iff.1 hk).1
theorem ZgG {P:Program} {s:ByteArray} {ps:List Int} {k i n:Nat} {p:Int} (h:Step s ps k i p n)(hi:i<s.size)(w:World)(K:Nat)(hk:w.heap[K]? =some (.stringIter s i))(ty:TypeId):
 (Instr.next (.pointer (some ⟨K,0,none⟩)) true ty).run P w= .ok (.tuple #[.bool true,.int .i64 i,.int .i32 p]) (w.iterAt K s (i+n)):=by
 obtain⟨⟨t,ht⟩,hn,_,hs⟩:=h;rw [Lib.run_next_any_at w K s i ty hk hi,Zgh,ht,Zc2 hs,hn];have e:((p.toNat:Nat):Int)=p:=by have:=Za1.1 hs;omega
 simp only [e]
def Zmq (ps:List Int)(s:ByteArray)(w0:World)(O:Obj)(K:Nat)(v:Value)(wr:World):Prop:=
 ∃k i:Nat,Run ps k i∧wr.heap[K]? =some (.stringIter s i)∧wr.ownsRow (w0.heap.size+1) 21 1 v k ((ps.take k).map (Value.int .i32))∧Below (w0.heap.size+1) (w0.alloc O) wr
theorem Zki {w:World} {base:Nat} {e:TypeId} {size n:Nat} {ad:Addr} {l c:Nat} {xs:List Value} (h:w.ownsRow base e size (.slice (some ad) l c) n xs):ad.spot=none:=by
 rcases h.2 with⟨h,_⟩|⟨g,cap,cur,h,_⟩
 · cases h
 · injection h with h
   injection h with h
   subst h;rfl
theorem Zpo {w:World} {base:Nat} {e:TypeId} {n:Nat} {ad:Addr} {l c:Nat} {zs:List Int} {k:IntKind} (h:w.ownsRow base e 1 (.slice (some ad) l c) n (zs.map (Value.int k))):∃cs fr,w.heap[ad.block]? =some (.cells cs e fr)∧∀j,j<zs.length→cs[ad.off+j]? =some (.int k (zs.getD j 0)):=by
 have hl:zs.length=n:=by simpa using h.1
 rcases h.2 with⟨h,_⟩|⟨g,cap,cur,h,_,hg,hn,_,hs,ht⟩
 · cases h
 · injection h with h
   injection h with h
   subst h;refine⟨cur,(0,0),hg,fun j hj=> ?_⟩;have h1:(cur.toList.take (n*1))[j]? =(zs.map (Value.int k))[j]?:=by rw [ht]
   rw [List.getElem?_take_of_lt (by omega),List.getElem?_map,List.getElem?_eq_getElem hj,Array.getElem?_toList] at h1;rw [Nat.zero_add,h1,List.getD,List.getElem?_eq_getElem hj];rfl
theorem Zms (s:ByteArray)(ps:List Int)(hg:Good s ps)(hs:s.size≤35184372088000)(w:World)(hT:Zj w):
 Calls Tryz.prog 281 #[.string s] w fun e w'=>∃A c,e= .returned (.tuple #[.slice A ps.length c,.agg #[.int .i64 0,.int .i64 0]])∧ps.length≤c∧Zaj w' w'.heap.size .i32 A ps∧(∀ad,A=some ad→w.heap.size≤ad.block∧ad.spot=none∧∃cs fr,w'.heap[ad.block]? =some (.cells cs 21 fr)∧∀j,j<ps.length→cs[ad.off+j]? =some (.int .i32 (ps.getD j 0)))∧Below w.heap.size w w':=by
 obtain⟨i0,hi,iz0,iz1,iz2⟩:=info_parts Zp4;have hlen:=hg.len;have hp:=hg.pre;go_enter Tryz.func281,Tryz.ntmps281
 go_wp2_with (go_at_call 208;refine(Zhc s ps hg (by omega) _ (by first|exact hT|exact ZG hT _)).mono ?_;rintro e w1 ⟨rfl,hb1⟩;have hz1:=Zb8 hb1;have HB1:=hb1.mono (B':=w.heap.size+1) (by simp);obtain⟨hc0,hc1,hf0,hf1,hlt1⟩:=Zbk HB1)
 refine(ZcU _ _ _).mono ?_;rintro e w2 ⟨rfl,hb2⟩;have hz2:=Zb8 hb2;have HB2:=(HB1.alloc (by omega) _).trans (hb2.mono (by simp;omega));clear hb1 hc0 hc1 hf0 hf1 hlt1 hb2;go_wp2_with (at_make;refine wpList_make_own _ rfl _ _ 320 rfl (w.heap.size+1) 21 i0 (.int .i32 0) 1 Tryz.underlying320 hi iz0 iz1 .i64 .i64 _ ps.length rfl rfl rfl (by rw [iz2];omega) (by unfold maxLen;omega) (by omega) ?_;intro w3 hown hgrow)
 have HB3:=HB2.grown hgrow (by omega) (by simp);have hz3:=hgrow.size;have hown':=hown.alloc (.stringIter s 0);have hit:=World.iter_heap w3 s 0;clear hown hgrow HB2 HB1;go_loopw [6] (fun v wr=>Zmq ps s w (.cells #[.int .i64 0,.int .i64 0] 45) w3.heap.size v wr) (fun _ wr=>s.size+1 - wr.iterPos w3.heap.size)
 case atStart=>exact⟨0,0,Run.zero _,hit,hown',HB3.alloc (by omega) _⟩
 case round=>
  obtain⟨k,i,hrun,hK,hownk,hbk⟩:=hrel;have hle:=hrun.le hp;have hKlt:=Zjv hK;by_cases hk:k<ps.length
  · obtain⟨p,n,hst,hrun',hn1,hn4,hin,hp0,hp1,_⟩:=hrun.step hp hk;have hstep:=fun ty=>ZgG (P:=Tryz.prog) hst (by omega) wr w3.heap.size hK ty;have hown1:=Zkg hownk hK (i+n);have hK1:=Lib.iterAt_heap wr w3.heap.size s i (i+n) hK;have hb1:=Lib.below_iterAt hbk (k:=w3.heap.size) (by omega) s (i+n);have hsz1:(wr.iterAt w3.heap.size s (i+n)).heap.size=wr.heap.size:=Lib.iterAt_size _ _ _ _;have hpos:=Zdb hK;have hcell:=cell_one_new (wr.iterAt w3.heap.size s (i+n)) (.int .i32 p) 21;rw [hsz1] at hcell;have hw4:w.heap.size+1≤((wr.iterAt w3.heap.size s (i+n)).alloc (.cells #[.int .i32 p] 21)).heap.size:=by simp;omega
    have hnext:Hid ((ps.take (k+1)).map (Value.int .i32)=(ps.take k).map (Value.int .i32)++[.int .i32 p]):=by
     rw [hst.snoc hk,List.map_append];rfl
    have hK2:=Below.heap_alloc (wr.iterAt w3.heap.size s (i+n)) (.cells #[.int .i32 p] 21) w3.heap.size (by omega);rw [hK1] at hK2;clear hown';go_wp2_with (at_builtin;refine wpList_append_own _ rfl _ _ 320 rfl (w.heap.size+1) 21 i0 (.int .i32 0) 1 4 Tryz.underlying320 hi iz0 iz1 iz2 rfl (by decide) u6 k _ rfl (hown1.alloc _) ⟨wr.heap.size,0,none⟩ 1 1 [.int .i32 p] rfl rfl hcell (by intro u hu;simp at hu;subst hu;rfl) (by unfold maxLen;omega) (by omega) hw4 ?_;intro v' w5 hown5 hg5 _)
    have hK5:=(hg5.block w3.heap.size (by simp;omega) (Zjw hownk hK)).trans hK2;rw [←hnext.out] at hown5;have hb5:=Z3 (hb1.alloc (by omega) (.cells #[.int .i32 p] 21)) (hown1.alloc _) hg5 hw4 (Nat.le_refl _);refine⟨⟨k+1,i+n,hrun',hK5,hown5,hb5⟩,?_⟩;rw [hpos,Zdb hK5];omega
  · have hk2:k=ps.length:=by omega
    subst hk2;obtain⟨hi,_,hie⟩:=hrun.end_ hp;have hend:=fun ty=>Lib.run_next_end_at (P:=Tryz.prog) wr w3.heap.size s i ty hK (by simp at hie;omega);obtain⟨hc0,hc1,hf0,hf1,hlt1⟩:=Zbk hbk;rw [List.take_length] at hownk;clear hown';go_wp2_with fail
    obtain⟨A,c,hv,hcap,_,_⟩:=Zaj.of_own hownk;have hownF:=ownsRow_setCell_below (ownsRow_setCell_below hownk (a:=⟨w.heap.size,0,none⟩) (Nat.lt_succ_self _) (.int .i64 0)) (a:=⟨w.heap.size,1,none⟩) (Nat.lt_succ_self _) (.int .i64 0);subst hv;obtain⟨A',c',hv',_,_,hnF⟩:=Zaj.of_own hownF;simp only [Value.slice.injEq] at hv';obtain⟨rfl,_,_⟩:=hv';refine bodyPost_ret (v:= .tuple #[.slice A ps.length c,.agg #[.int .i64 0,.int .i64 0]]) (by simp [results,Tryz.results281,go_sem,hc0,hc1]) rfl ⟨A,c,rfl,hcap,hnF,fun ad had=>by subst had;have:=(hownF.lt _ rfl).1;exact⟨by omega,Zki hownF,Zpo hownF⟩,?_⟩;exact(((((Below.refl _ w).alloc (Nat.le_refl _) _).trans (hbk.mono (by omega))).setCell (Nat.le_refl _) _).setCell (Nat.le_refl _) _)
theorem Zmr (s:ByteArray)(n:Nat)(hg:ZaI s n)(hs:s.size≤35184372088000)(w:World)(hT:Zj w):
 Calls Tryz.prog 281 #[.string s] w fun e w'=>e= .returned (.tuple #[.slice none 0 0,.agg #[.int .i64 2,.int .i64 n]])∧Below w.heap.size w w':=by
 go_enter Tryz.func281,Tryz.ntmps281
 go_wp2_with (go_at_call 208;refine(Zhb s n hg (by omega) _ (by first|exact hT|exact ZG hT _)).mono ?_;rintro e w1 ⟨rfl,hb1⟩;have hz1:=Zb8 hb1;have HB1:=hb1.mono (B':=w.heap.size+1) (by simp);obtain⟨hc0,hc1,hf0,hf1,hlt1⟩:=Zbk HB1)
 refine(ZcU _ _ _).mono ?_;rintro e w2 ⟨rfl,hb2⟩;have hz2:=Zb8 hb2;have HB2:=(HB1.alloc (by omega) _).trans (hb2.mono (by simp;omega));have hbx:=Zbk (hb2.mono (by simp));obtain⟨hd0,hd1,he0,he1,hlt2⟩:=hbx;clear hc0 hc1 hf0 hf1;obtain⟨hc0,hc1,hf0,hf1,hlt3⟩:=Zbk HB2;go_wp2_with fail
 go_region
 go_wp2_with fail
 refine bodyPost_ret (v:= .tuple #[.slice none 0 0,.agg #[.int .i64 2,.int .i64 n]]) (by simp [results,Tryz.results281,go_sem,hc0,hc1]) rfl ⟨rfl,?_⟩;exact(((((Below.refl _ w).alloc (Nat.le_refl _) _).trans (HB2.mono (by omega))).setCell (Nat.le_refl _) _).setCell (Nat.le_refl _) _).drew
theorem Zif (s:ByteArray)(hs:s.size≤140737488355328)(w:World)(hT:Zj w):
 Calls Tryz.prog 123 #[.string s] w fun e w'=>e= .returned (.bool (Lib.validD s.data.toList))∧Below w.heap.size w w':=by
 have hv:=Any.utf8_ValidString Tryz.laysValid s w (by omega) hT;go_enter Tryz.func123,Tryz.ntmps123
 go_wp2_with (go_at_call 194;refine hv.mono ?_;rintro e w1 ⟨rfl,hb1⟩)
 go_ret
 exact⟨rfl,hb1⟩
end Go.Proofs.YtnbkfkbcpfkddaaGreatDoor
namespace Go.Proofs.YtnbkfkbcpfkddaaGreatDoor
open Go
def two (big:Bool)(u:Int):List UInt8:=if big then [(u / 256).toNat.toUInt8,(u % 256).toNat.toUInt8] else [(u % 256).toNat.toUInt8,(u / 256).toNat.toUInt8]
end Go.Proofs.YtnbkfkbcpfkddaaGreatDoor
namespace Go.Proofs.YtnbkfkbcpfkddaaGreatDoor
open Go Go.RowKit
theorem Zgg (l:List UInt8):Lib.decodeL l=Zx l:=by
 unfold Lib.decodeL;rw [Zgh];rfl
theorem Zlv:∀(ps:List Int) (n:Nat),(∀p∈ps,Zv p=true)→Lib.validGoD n (Zd ps)=true
 |_,0,_=>rfl
 |[],n+1,_=>by simp [Lib.validGoD,Zbi]
 |p::ps,n+1,h=>by
  have hs:=h p (List.mem_cons_self ..);have hd:Zx (Zd (p::ps))=(p.toNat,(Lib.encodeRune p).length):=by rw [Zap];exact Zc2 hs _
  have he:=ZgI hs (Zd ps);rw [←Zap] at he;unfold Lib.validGoD;rw [Zgg,hd] at*;split
  · rfl
  · rw [if_neg]
    · have:(Zd (p::ps)).drop (Lib.encodeRune p).length=Zd ps:=by rw [Zap,List.drop_left]
      simp only;rw [this];exact Zlv ps n fun q hq=>h q (List.mem_cons_of_mem _ hq)
    · rintro⟨h1,h2⟩;exact he ⟨h1,by simp only at h2⊢;omega⟩
theorem ZnK (n b0 b1 b2 b3:Nat):1≤(Lib.decodeN n b0 b1 b2 b3).2:=by
 unfold Lib.decodeN
 repeat' split
 all_goals simp
theorem Zn6 {l:List UInt8} (h:ZaK (Zx l)):(Zx l).1=65533∧(Zx l).2=1:=by
 have:=ZnK l.length (l.getD 0 0).toNat (l.getD 1 0).toNat (l.getD 2 0).toNat (l.getD 3 0).toNat;have h2:=h.2;unfold Zx at h2⊢;exact⟨h.1,by omega⟩
theorem Zlu:∀(ps:List Int) (r:List UInt8) (n:Nat),ps.length<n→(∀p∈ps,Zv p=true)→r≠[]→ZaK (Zx r)→Lib.validGoD n (Zd ps++r)=false
 |_,_,0,hn,_,_,_=>by omega
 |[],r,n+1,_,_,hr,he=>by
  unfold Lib.validGoD;rw [Zbi,List.nil_append,if_neg hr,Zgg,if_pos (Zn6 he)]
 |p::ps,r,n+1,hn,h,hr,he=>by
  have hs:=h p (List.mem_cons_self ..);have hd:Zx (Zd (p::ps)++r)=(p.toNat,(Lib.encodeRune p).length):=by rw [Zap,List.append_assoc];exact Zc2 hs _
  have he1:=ZgI hs (Zd ps++r);rw [←List.append_assoc,←Zap] at he1;unfold Lib.validGoD;rw [Zgg,hd] at*;rw [if_neg (by intro h0;exact hr (List.append_eq_nil_iff.1 h0).2),if_neg]
  · have:(Zd (p::ps)++r).drop (Lib.encodeRune p).length=Zd ps++r:=by rw [Zap,List.append_assoc,List.drop_left]
    simp only;rw [this];exact Zlu ps r n (by simp at hn;omega) (fun q hq=>h q (List.mem_cons_of_mem _ hq)) hr he
  · rintro⟨h1,h2⟩;exact he1 ⟨h1,by simp only at h2⊢;omega⟩
theorem Good.valid {s:ByteArray} {ps:List Int} (h:Good s ps):Lib.validD s.data.toList=true:=by
 unfold Lib.validD;rw [h.1];exact Zlv ps _ h.2
theorem ZaI.valid {s:ByteArray} {n:Nat} (h:ZaI s n):Lib.validD s.data.toList=false:=by
 obtain⟨ps,r,h1,h2,_,h4,h5⟩:=h;unfold Lib.validD;rw [h1];refine Zlu ps r _ ?_ h2 h4 h5;have:=(Zch ps).1;have:0<r.length:=List.length_pos_iff.2 h4;rw [List.length_append];omega
theorem ZmY (s:ByteArray)(ps:List Int)(hg:Good s ps)(hs:s.size≤140737488355328)(w:World)(hT:Zj w):
 Calls Tryz.prog 123 #[.string s] w fun e w'=>e= .returned (.bool true)∧Below w.heap.size w w':=by
 have h:=Zif s hs w hT;rw [hg.valid] at h;exact h
theorem ZmX (s:ByteArray)(n:Nat)(hg:ZaI s n)(hs:s.size≤140737488355328)(w:World)(hT:Zj w):
 Calls Tryz.prog 123 #[.string s] w fun e w'=>e= .returned (.bool false)∧Below w.heap.size w w':=by
 have h:=Zif s hs w hT;rw [hg.valid] at h;exact h
theorem Zo1 (w:World)(e:TypeId)(z:Int)(k:IntKind):Zaj (w.alloc (.cells #[.int k z] e)) (w.heap.size+1) k (some ⟨w.heap.size,0,none⟩) [z]:=Zo0 w e [z] k
theorem ZmT (p:Int)(hp:Zv p=true)(c:Nat)(w:World):
 Calls Tryz.prog 268 #[.slice (some ⟨w.heap.size,0,none⟩) 1 c] (w.alloc (.cells #[.int .i32 p] 21)) fun e w'=>e= .returned (.tuple #[.string ⟨(Lib.encodeRune p).toArray⟩,.bool true])∧Below (w.alloc (.cells #[.int .i32 p] 21)).heap.size (w.alloc (.cells #[.int .i32 p] 21)) w':=by
 have h:=ZmS (some ⟨w.heap.size,0,none⟩) c [p] _ (Zo1 w 21 p .i32) (by simp) (by simpa using hp) (by simp);have e:Zd [p]=Lib.encodeRune p:=by simp [Zd]
 rw [e] at h;exact h
theorem Zng:ZaI ⟨#[97,195,97]⟩ 1:=
 ⟨[97],[195,97],rfl,by decide,rfl,by decide,by decide⟩
theorem ZlB (w:World)(hT:Zj w):
 Calls Tryz.prog 219 #[] w fun e w'=>e= .returned (.bool true)∧Below w.heap.size w w':=by
 go_enter Tryz.func219,Tryz.ntmps219
 go_wp2_with (first|(go_at_call 268;refine(ZmT 233 (by decide) _ _).mono ?_;rintro e w1 ⟨rfl,hb1⟩;have hB1:=Zh hb1;have hT1:=ZU hT hB1 (Nat.le_refl _);have hz1:=hB1.size)|(go_at_call 281;refine(Zmr _ 1 Zng (by decide) _ hT1).mono ?_;rintro e w2 ⟨rfl,hb2⟩;have hB2:=hB1.trans (hb2.mono hz1)))
 go_ret
 exact⟨rfl,hB2.alloc hB2.size _⟩
end Go.Proofs.YtnbkfkbcpfkddaaGreatDoor
