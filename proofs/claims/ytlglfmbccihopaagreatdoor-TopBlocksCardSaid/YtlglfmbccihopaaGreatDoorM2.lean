/- Lemmas for a statement on the tops; conditions: as each says. -/
import Derived.Lib.IndexBytes
import Derived.Test.YtlglfmbccihopaaGreatDoorRows
import Derived.WalkSpells
import Derived.Outline
import Derived.Deep.DeepFit
import Derived.Lib.Index
import Derived.Lib.OthersKept
import Derived.LoopN
import Derived.Test.YtlglfmbccihopaaGreatDoorM1
set_option linter.unusedVariables false
set_option linter.unusedSimpArgs false
set_option maxRecDepth 100000
set_option maxHeartbeats 200000
namespace Go.Proofs.YtlglfmbccihopaaGreatDoor
open Go Go.RowKit
def Pre (s:ByteArray)(ps:List Int)(r:List UInt8):Prop:=s.data.toList=Zc ps++r∧∀p∈ps,Zf p=true
def Run (ps:List Int)(k i:Nat):Prop:=k≤ps.length∧i=(Zc (ps.take k)).length
theorem Good.pre {s:ByteArray} {ps:List Int} (h:Good s ps):Pre s ps []:=⟨by simpa using h.1,h.2⟩
theorem ZaF.pre {s:ByteArray} {n:Nat} (h:ZaF s n):∃ps r,Pre s ps r∧n=(Zc ps).length∧r≠[]∧Za6 (Zw r):=by
 obtain⟨ps,r,h1,h2,h3,h4,h5⟩:=h;exact⟨ps,r,⟨h1,h2⟩,h3,h4,h5⟩
theorem Run.zero (ps:List Int):Run ps 0 0:=⟨Nat.zero_le _,rfl⟩
theorem Zc9 {ps:List Int} {k:Nat} (h:k<ps.length):ps.getD k 0∈ps:=by
 rw [List.getD_eq_getElem?_getD,List.getElem?_eq_getElem h];exact List.getElem_mem h
theorem Zkq {ps:List Int} {k:Nat} (h:k<ps.length):ps.drop k=ps.getD k 0::ps.drop (k+1):=by
 rw [List.drop_eq_getElem_cons h,List.getD_eq_getElem?_getD,List.getElem?_eq_getElem h];rfl
theorem ZcW {ps:List Int} {k:Nat} (h:k<ps.length):ps.take (k+1)=ps.take k++[ps.getD k 0]:=by
 rw [List.take_succ_eq_append_getElem h,List.getD_eq_getElem?_getD,List.getElem?_eq_getElem h];rfl
theorem Run.drop {s:ByteArray} {ps:List Int} {r:List UInt8} {k i:Nat} (hp:Pre s ps r)(h:Run ps k i):s.data.toList.drop i=Zc (ps.drop k)++r:=by
 have e:Zc ps=Zc (ps.take k)++Zc (ps.drop k):=by rw [←ZeM,List.take_append_drop]
 rw [hp.1,e,List.append_assoc,h.2,List.drop_left]
theorem Run.next {ps:List Int} {k i:Nat} (h:Run ps k i)(hk:k<ps.length):Run ps (k+1) (i+(Lib.encodeRune (ps.getD k 0)).length):=
 ⟨hk,by rw [ZcW hk,ZeM,List.length_append,←h.2,Zax,Zby,List.append_nil]⟩
theorem Run.head {s:ByteArray} {ps:List Int} {r:List UInt8} {k i:Nat} (hp:Pre s ps r)(h:Run ps k i)(hk:k<ps.length):
 ∃t,s.data.toList.drop i=Lib.encodeRune (ps.getD k 0)++t∧Zf (ps.getD k 0)=true∧i<s.size∧i+(Lib.encodeRune (ps.getD k 0)).length≤s.size:=by
 have hd:=h.drop hp;rw [Zkq hk,Zax,List.append_assoc] at hd;have hl:=congrArg List.length hd;rw [List.length_drop,List.length_append] at hl;have h1:=(ZbO (ps.getD k 0)).1;have hs:s.data.toList.length=s.size:=by simp
 rw [hs] at hl;exact⟨_,hd,hp.2 _ (Zc9 hk),by omega,by omega⟩
theorem Run.end_ {s:ByteArray} {ps:List Int} {r:List UInt8} {i:Nat} (hp:Pre s ps r)(h:Run ps ps.length i):i=(Zc ps).length∧s.data.toList.drop i=r∧i+r.length=s.size:=by
 have hd:=h.drop hp;rw [List.drop_length,Zby,List.nil_append] at hd;have h2:=h.2;rw [List.take_length] at h2;refine⟨h2,hd,?_⟩;have hl:=congrArg List.length hp.1;rw [List.length_append] at hl;have hs:s.data.toList.length=s.size:=by simp
 omega
theorem Run.le {s:ByteArray} {ps:List Int} {r:List UInt8} {k i:Nat} (hp:Pre s ps r)(h:Run ps k i):k≤i∧i≤s.size∧k≤ps.length:=by
 have h1:=(ZaL (ps.take k)).1;rw [List.length_take,←h.2] at h1;have h0:=h.1;have hl:=congrArg List.length hp.1;have e:Zc ps=Zc (ps.take k)++Zc (ps.drop k):=by rw [←ZeM,List.take_append_drop]
 rw [e,List.length_append,List.length_append,←h.2] at hl;have hs:s.data.toList.length=s.size:=by simp
 omega
theorem ZqN (s:ByteArray)(i:Nat):(s.extract i s.size).data.toList=s.data.toList.drop i:=Lib.extract_to_end s i
theorem Zko (s:ByteArray)(i:Nat)(h:i<s.size):Lib.decodeGo (s.extract i s.size)=Zw (s.data.toList.drop i):=by
 have e:=ZqN s i;have hz:(s.extract i s.size).size=s.size - i:=by
  have h2:=congrArg List.length e;have h3:(s.extract i s.size).data.toList.length=(s.extract i s.size).size:=by simp
  have h4:s.data.toList.length=s.size:=by simp
  rw [h3,List.length_drop,h4] at h2;exact h2
 unfold Lib.decodeGo;rw [if_neg (by omega),Zhe,e,List.drop_zero]
def Step (s:ByteArray)(ps:List Int)(k i:Nat)(p:Int)(n:Nat):Prop:=
 (∃t,s.data.toList.drop i=Lib.encodeRune p++t)∧n=(Lib.encodeRune p).length∧p=ps.getD k 0∧Zf p=true
theorem Run.step {s:ByteArray} {ps:List Int} {r:List UInt8} {k i:Nat} (hp:Pre s ps r)(h:Run ps k i)(hk:k<ps.length):
 ∃(p:Int) (n:Nat),Step s ps k i p n∧Run ps (k+1) (i+n)∧1≤n∧n≤4∧i+n≤s.size∧0≤p∧p≤1114111∧((p==65533)=false∨(p=65533∧2≤n)):=by
 obtain⟨t,hd,hs,hi,hi2⟩:=h.head hp hk;have h4:=Zab.1 hs;have h5:=ZbO (ps.getD k 0);refine⟨_,_,⟨⟨t,hd⟩,rfl,rfl,hs⟩,h.next hk,h5.1,h5.2,hi2,h4.1,h4.2.1,?_⟩;by_cases h6:ps.getD k 0=65533
 · right
   rw [h6];exact⟨rfl,by decide⟩
 · left
   simpa using h6
theorem Step.snoc {s:ByteArray} {ps:List Int} {k i n:Nat} {p:Int} (h:Step s ps k i p n)(hk:k<ps.length):ps.take (k+1)=ps.take k++[p]:=by
 rw [ZcW hk,h.2.2.1]
def Zh (w:World):Prop:=Lib.Utf8Tabs 1 2 w
theorem Zdq (e a:Int)(w:World):
 Calls Tryz.prog 8 #[.agg #[.int .i64 e,.int .i64 a]] w fun x w'=>x= .returned (.bool (e !=0))∧Below w.heap.size w w':=by
 go_enter Tryz.func8,Tryz.ntmps8
 go_wp2
 go_ret
 exact⟨rfl,(Below.refl _ _).alloc (Nat.le_refl _) _⟩
theorem Zn7 (s:ByteArray)(i:Nat)(p:Int)(t:List UInt8)(hd:s.data.toList.drop i=Lib.encodeRune p++t)(hp:Zf p=true)(w:World)(hT:Zh w):
 Calls Tryz.prog 230 #[.string (s.extract i s.size)] w fun e w'=>e= .returned (.tuple #[.int .i32 p,.int .i64 (Lib.encodeRune p).length])∧Below w.heap.size w w':=by
 have hi:i<s.size:=by
  have h1:=congrArg List.length hd;have h2:=(ZbO p).1;have h4:s.data.toList.length=s.size:=by simp
  rw [List.length_drop,List.length_append,h4] at h1;omega
 have h:=Tryz.utf8_DecodeRuneInString (s.extract i s.size) w hT;rw [Zko s i hi,hd,Zdy hp] at h;have e:((p.toNat:Nat):Int)=p:=by have:=Zab.1 hp;omega
 simp only [e] at h;exact h
theorem Zn6 (s:ByteArray)(i:Nat)(hi:i<s.size)(hd:Za6 (Zw (s.data.toList.drop i)))(w:World)(hT:Zh w):
 Calls Tryz.prog 230 #[.string (s.extract i s.size)] w fun e w'=>(∃n:Nat,n≤1∧e= .returned (.tuple #[.int .i32 65533,.int .i64 n]))∧Below w.heap.size w w':=by
 have h:=Tryz.utf8_DecodeRuneInString (s.extract i s.size) w hT;rw [Zko s i hi] at h;refine h.mono fun e w' ⟨he,hb⟩=>⟨⟨_,hd.2,?_⟩,hb⟩
 rw [he,hd.1];rfl
theorem ZU {w w':World} (h:Zh w){B:Nat} (hb:Below B w w')(hB:w.heap.size≤B):Zh w':=Utf8Tabs_below h (hb.mono hB)
def Zo0 (ps:List Int)(w0:World)(n at_:Value)(wr:World):Prop:=
 ∃k i:Nat,n= .int .i64 k∧at_= .int .i64 i∧Run ps k i∧Below (w0.heap.size+1) (w0.alloc (.cells #[.int .i64 0,.int .i64 0] 39)) wr
theorem Zn8 {s:ByteArray} {ps:List Int} {k i n:Nat} {p:Int} (h:Step s ps k i p n)(w:World)(hT:Zh w):
 Calls Tryz.prog 230 #[.string (s.extract i s.size)] w fun e w'=>e= .returned (.tuple #[.int .i32 p,.int .i64 n])∧Below w.heap.size w w':=by
 obtain⟨⟨t,ht⟩,hn,_,hs⟩:=h;subst hn;exact Zn7 s i p t ht hs w hT
theorem ZmI (s:ByteArray)(ps:List Int)(r:List UInt8)(hp:Pre s ps r)(hr:r=[]∨Za6 (Zw r))(hs:s.size≤140737488355328)(w:World)(hT:Zh w):
 Calls Tryz.prog 196 #[.string s] w fun e w'=>
  ((r=[]∧e= .returned (.tuple #[.int .i64 ps.length,.agg #[.int .i64 0,.int .i64 0]]))∨(r≠[]∧e= .returned (.tuple #[.int .i64 0,.agg #[.int .i64 2,.int .i64 (Zc ps).length]])))∧Below w.heap.size w w':=by
 go_enter Tryz.func196,Tryz.ntmps196
 go_wp2_with fail
 go_loopw [4,5] (fun n i wr=>Zo0 ps w n i wr) (fun _ i _=>s.size - (intOf i).toNat)
 case atStart=>exact⟨0,0,rfl,rfl,Run.zero _,Below.refl _ _⟩
 case round=>
  obtain⟨k,i,rfl,rfl,hrun,hb⟩:=hrel;have hle:=hrun.le hp;obtain⟨hc0,hc1,hf0,hf1,hsz⟩:=Zbq hb;have hTr:Zh wr:=ZU (ZU hT (Below.alloc (Below.refl (w.heap.size) w) (Nat.le_refl _) _) (Nat.le_refl _)) hb (by simp);by_cases hk:k<ps.length
  · obtain⟨p,n,hst,hrun',hn1,hn4,hin,_,_,hq⟩:=hrun.step hp hk;rcases hq with hq|⟨rfl,hq⟩
    all_goals
     go_wp2_with (go_at_call 230;refine(Zn8 hst _ hTr).mono ?_;rintro e w' ⟨rfl,hb'⟩)
     go_roundw
     case rel=>exact⟨k+1,i+n,by go_num,by go_num,hrun',hb.trans (hb'.mono (by omega))⟩
     case measure=>simp [intOf];omega
  · have hk2:k=ps.length:=by omega
    subst hk2;obtain⟨hi,hdr,hir⟩:=hrun.end_ hp;by_cases hr0:r=[]
    · have hge:¬i<s.size:=by rw [hr0] at hir;simp at hir;omega
      clear hdr hir hi;go_wp2_with fail
      refine bodyPost_ret (v:= .tuple #[.int .i64 ps.length,.agg #[.int .i64 0,.int .i64 0]]) (by simp [results,Tryz.results196,go_sem,hc0,hc1]) rfl ⟨.inl ⟨hr0,rfl⟩,?_⟩;exact(((((Below.refl _ w).alloc (Nat.le_refl _) _).trans (hb.mono (by omega))).setCell (Nat.le_refl _) _).setCell (Nat.le_refl _) _)
    · have hlt:i<s.size:=by have:=List.length_pos_iff.2 hr0;omega
      have he:Za6 (Zw (s.data.toList.drop i)):=by rw [hdr];exact hr.resolve_left hr0
      have Hi:=Lib.hid hi;clear hdr hir hi;go_wp2_with (go_at_call 230;refine(Zn6 s i hlt he _ hTr).mono ?_;rintro e w' ⟨⟨n,hn,rfl⟩,hb'⟩;have hb2:=hb'.mono (B':=w.heap.size+1) (by omega);have hb3:=hb.trans hb2;obtain⟨hc0',hc1',hf0',hf1',hsz'⟩:=Zbq hb3)
      rw [Hi.out];refine bodyPost_ret (v:= .tuple #[.int .i64 0,.agg #[.int .i64 2,.int .i64 (Zc ps).length]]) (by simp [results,Tryz.results196,go_sem,hc0',hc1']) rfl ⟨.inr ⟨hr0,rfl⟩,?_⟩;exact(((((Below.refl _ w).alloc (Nat.le_refl _) _).trans (hb3.mono (by omega))).setCell (Nat.le_refl _) _).setCell (Nat.le_refl _) _)
theorem Zie (s:ByteArray)(ps:List Int)(hg:Good s ps)(hs:s.size≤140737488355328)(w:World)(hT:Zh w):
 Calls Tryz.prog 196 #[.string s] w fun e w'=>e= .returned (.tuple #[.int .i64 ps.length,.agg #[.int .i64 0,.int .i64 0]])∧Below w.heap.size w w':=
 (ZmI s ps [] hg.pre (.inl rfl) hs w hT).mono fun _ _ ⟨h,hb⟩=>by
  rcases h with⟨_,h⟩|⟨h,_⟩
  · exact⟨h,hb⟩
  · exact absurd rfl h
theorem Zid (s:ByteArray)(n:Nat)(hg:ZaF s n)(hs:s.size≤140737488355328)(w:World)(hT:Zh w):
 Calls Tryz.prog 196 #[.string s] w fun e w'=>e= .returned (.tuple #[.int .i64 0,.agg #[.int .i64 2,.int .i64 n]])∧Below w.heap.size w w':=by
 obtain⟨ps,r,hp,rfl,hr,he⟩:=hg.pre;refine(ZmI s ps r hp (.inr he) hs w hT).mono fun _ _ ⟨h,hb⟩=> ?_;rcases h with⟨h,_⟩|⟨_,h⟩
 · exact absurd h hr
 · exact⟨h,hb⟩
theorem Zx {w:World} (h:Zh w)(o:Obj):Zh (w.alloc o):=ZU h ((Below.refl _ _).alloc (Nat.le_refl _) _) (Nat.le_refl _)
theorem ZiR (s:ByteArray)(ps:List Int)(hg:Good s ps)(hs:s.size≤140737488355328)(w:World)(hT:Zh w):
 Calls Tryz.prog 120 #[.string s] w fun e w'=>e= .returned (.agg #[.int .i64 0,.int .i64 0])∧Below w.heap.size w w':=by
 go_enter Tryz.func120,Tryz.ntmps120
 go_wp2_with (go_at_call 196;refine(Zie s ps hg hs _ (by first|exact hT|exact Zx hT _)).mono ?_;rintro e w1 ⟨rfl,hb1⟩;have hz0:=hb1.size;try (obtain⟨hc0,hc1,hf0,hf1,hz1⟩:=Zbq (hb1.mono (by simp))))
 refine bodyPost_ret (v:= .agg #[.int .i64 0,.int .i64 0]) (by simp [results,Tryz.results120,go_sem,hc0,hc1,hz1]) rfl ⟨rfl,?_⟩
 (repeat (first|exact Zd hb1|exact hb1|refine Below.alloc ?_ (by first|exact Nat.le_refl _|exact hz0|(simp;done)|(simp;omega)) _|refine Below.setCell ?_ (by first|exact Nat.le_refl _|exact hz0|(simp;done)|(simp;omega)) _))
theorem ZnT (s:ByteArray)(n:Nat)(hg:ZaF s n)(hs:s.size≤140737488355328)(w:World)(hT:Zh w):
 Calls Tryz.prog 120 #[.string s] w fun e w'=>e= .returned (.agg #[.int .i64 2,.int .i64 n])∧Below w.heap.size w w':=by
 go_enter Tryz.func120,Tryz.ntmps120
 go_wp2_with (go_at_call 196;refine(Zid s n hg hs _ (by first|exact hT|exact Zx hT _)).mono ?_;rintro e w1 ⟨rfl,hb1⟩;have hz0:=hb1.size;try (obtain⟨hc0,hc1,hf0,hf1,hz1⟩:=Zbq (hb1.mono (by simp))))
 refine bodyPost_ret (v:= .agg #[.int .i64 2,.int .i64 n]) (by simp [results,Tryz.results120,go_sem,hc0,hc1,hz1]) rfl ⟨rfl,?_⟩
 (repeat (first|exact Zd hb1|exact hb1|refine Below.alloc ?_ (by first|exact Nat.le_refl _|exact hz0|(simp;done)|(simp;omega)) _|refine Below.setCell ?_ (by first|exact Nat.le_refl _|exact hz0|(simp;done)|(simp;omega)) _))
theorem ZiT (s:ByteArray)(ps:List Int)(hg:Good s ps)(hs:s.size≤140737488355328)(w:World)(hT:Zh w):
 Calls Tryz.prog 339 #[.string s] w fun e w'=>e= .returned (.int .i64 ps.length)∧Below w.heap.size w w':=by
 go_enter Tryz.func339,Tryz.ntmps339
 go_wp2_with (go_at_call 196;refine(Zie s ps hg hs _ (by first|exact hT|exact Zx hT _)).mono ?_;rintro e w1 ⟨rfl,hb1⟩;have hz0:=hb1.size;try (obtain⟨hc0,hc1,hf0,hf1,hz1⟩:=Zbq (hb1.mono (by simp))))
 go_ret
 exact⟨rfl,by(repeat (first|exact Zd hb1|exact hb1|refine Below.alloc ?_ (by first|exact Nat.le_refl _|exact hz0|(simp;done)|(simp;omega)) _|refine Below.setCell ?_ (by first|exact Nat.le_refl _|exact hz0|(simp;done)|(simp;omega)) _))⟩
theorem ZnY (s:ByteArray)(n:Nat)(hg:ZaF s n)(hs:s.size≤140737488355328)(w:World)(hT:Zh w):
 Calls Tryz.prog 339 #[.string s] w fun e w'=>e= .returned (.int .i64 0)∧Below w.heap.size w w':=by
 go_enter Tryz.func339,Tryz.ntmps339
 go_wp2_with (go_at_call 196;refine(Zid s n hg hs _ (by first|exact hT|exact Zx hT _)).mono ?_;rintro e w1 ⟨rfl,hb1⟩;have hz0:=hb1.size;try (obtain⟨hc0,hc1,hf0,hf1,hz1⟩:=Zbq (hb1.mono (by simp))))
 go_ret
 exact⟨rfl,by(repeat (first|exact Zd hb1|exact hb1|refine Below.alloc ?_ (by first|exact Nat.le_refl _|exact hz0|(simp;done)|(simp;omega)) _|refine Below.setCell ?_ (by first|exact Nat.le_refl _|exact hz0|(simp;done)|(simp;omega)) _))⟩
end Go.Proofs.YtlglfmbccihopaaGreatDoor
namespace Go.Proofs.YtlglfmbccihopaaGreatDoor
open Go
def Zp (n:Int):UInt8:=if n<10 then(48+n).toNat.toUInt8 else(55+n).toNat.toUInt8
def Zi (p:Int):List UInt8:=[Zp (p / 4096),Zp (p / 256 % 16),Zp (p / 16 % 16),Zp (p % 16),32]
def Zu (ps:List Int):List UInt8:=ps.flatMap Zi
def ZgO (ps:List Int):Prop:=∀p∈ps,0≤p∧p≤65535
def Zqt:List UInt8:=[48,49,50,51,52,53,54,55,56,57,65,66,67,68,69,70]
theorem Zig {n:Int} (h0:0≤n)(h1:n<16):n=0∨n=1∨n=2∨n=3∨n=4∨n=5∨n=6∨n=7∨n=8∨n=9∨n=10∨n=11∨n=12∨n=13∨n=14∨n=15:=by omega
theorem ZfE {n:Int} (h0:0≤n)(h1:n<16):Lib.indexByte Zqt (Zp n)=n:=by
 rcases Zig h0 h1 with rfl|rfl|rfl|rfl|rfl|rfl|rfl|rfl|rfl|rfl|rfl|rfl|rfl|rfl|rfl|rfl<;>decide
theorem ZfD {n:Int} (h0:0≤n)(h1:n<16):Zp n≠32:=by
 rcases Zig h0 h1 with rfl|rfl|rfl|rfl|rfl|rfl|rfl|rfl|rfl|rfl|rfl|rfl|rfl|rfl|rfl|rfl<;>decide
theorem ZfF {n m:Int} (h0:0≤n)(h1:n<16)(g0:0≤m)(g1:m<16)(h:Zp n=Zp m):n=m:=by
 rw [←ZfE h0 h1,h,ZfE g0 g1]
theorem ZfH (p:Int)(ps:List Int):Zu (p::ps)=Zi p++Zu ps:=rfl
theorem Zk6 (ps:List Int):(Zu ps).length=5*ps.length:=by
 induction ps with
 |nil=>rfl
 |cons p ps ih=>rw [ZfH,List.length_append,ih,List.length_cons];simp [Zi];omega
theorem Zk5 (ps:List Int)(k j:Nat)(hk:k<ps.length)(hj:j<5):(Zu ps)[5*k+j]? =(Zi (ps.getD k 0))[j]?:=by
 induction ps generalizing k with
 |nil=>simp at hk
 |cons p ps ih=>
  rw [ZfH];cases k with
  |zero=>rw [List.getElem?_append_left (by simp [Zi];omega)];simp
  |succ k=>
   rw [List.getElem?_append_right (by simp [Zi];omega)];have e:5*(k+1)+j - (Zi p).length=5*k+j:=by simp [Zi];omega
   rw [e,ih k (by simpa using hk)];simp
def fnd:List Int→Int→Int
 |[],_=> -1
 |q::l,p=>if q=p then 0 else if fnd l p= -1 then -1 else fnd l p+1
theorem Zfx (l:List Int)(p:Int): -1≤fnd l p:=by
 induction l with
 |nil=>simp [fnd]
 |cons q l ih=>unfold fnd;split; · decide
               split<;>omega
theorem Zen (l:List Int)(p:Int):fnd l p<l.length:=by
 induction l with
 |nil=>simp [fnd]
 |cons q l ih=>unfold fnd;rw [List.length_cons];split; · omega
               split<;>omega
theorem ZqW {l:List Int} {p:Int}:fnd l p= -1↔p∉l:=by
 induction l with
 |nil=>simp [fnd]
 |cons q l ih=>
  have:=Zfx l p;unfold fnd;by_cases h:q=p
  · subst h;simp
  · have h':p≠q:=fun e=>h e.symm;rw [if_neg h];by_cases h2:fnd l p= -1
    · rw [if_pos h2];simp [h',ih.1 h2]
    · rw [if_neg h2];have:p∈l:=Classical.byContradiction fun hn=>h2 (ih.2 hn);simp [this];omega
theorem Zdu {p:Int} (h:0≤p∧p≤65535):(0≤p / 4096∧p / 4096<16)∧(0≤p / 256 % 16∧p / 256 % 16<16)∧(0≤p / 16 % 16∧p / 16 % 16<16)∧(0≤p % 16∧p % 16<16):=by omega
theorem ZpY {p q:Int} (hp:0≤p∧p≤65535)(hq:0≤q∧q≤65535)(h:Zi p=Zi q):p=q:=by
 obtain⟨a1,a2,a3,a4⟩:=Zdu hp;obtain⟨b1,b2,b3,b4⟩:=Zdu hq;simp only [Zi,List.cons.injEq,and_true] at h;obtain⟨e1,e2,e3,e4⟩:=h;have f1:=ZfF a1.1 a1.2 b1.1 b1.2 e1;have f2:=ZfF a2.1 a2.2 b2.1 b2.2 e2;have f3:=ZfF a3.1 a3.2 b3.1 b3.2 e3;have f4:=ZfF a4.1 a4.2 b4.1 b4.2 e4;omega
theorem ZfI {b:UInt8} {l sub:List UInt8} (h:sub.isPrefixOf (b::l)=false):Lib.index (b::l) sub=if Lib.index l sub= -1 then -1 else Lib.index l sub+1:=by
 rw [Lib.index,h];simp
theorem Zrf (ps:List Int)(p:Int)(hs:ZgO ps)(hp:0≤p∧p≤65535):Lib.index (Zu ps) (Zi p)=if fnd ps p= -1 then -1 else 5*fnd ps p:=by
 induction ps with
 |nil=>rfl
 |cons q ps ih=>
  have hq:=hs q (by simp);have ih:=ih (fun x hx=>hs x (by simp [hx]));obtain⟨a1,a2,a3,a4⟩:=Zdu hp;have n1:=ZfD a1.1 a1.2;have n2:=ZfD a2.1 a2.2;have n3:=ZfD a3.1 a3.2;have n4:=ZfD a4.1 a4.2;have hg:=Zfx ps p;rw [ZfH];by_cases e:q=p
  · subst e;simp only [fnd,if_true];unfold Lib.index Zi;simp [List.isPrefixOf]
  · have hne:¬Zi p=Zi q:=fun h=>e (ZpY hp hq h).symm;have h0:(Zi p).isPrefixOf (Zi q++Zu ps)=false:=by
     rw [Bool.eq_false_iff];intro h;have:=List.isPrefixOf_iff_prefix.1 h;exact hne (List.IsPrefix.eq_of_length (List.prefix_of_prefix_length_le this (List.prefix_append _ _) (by simp [Zi])) (by simp [Zi]))
    have hr:Lib.index (Zi q++Zu ps) (Zi p)=if Lib.index (Zu ps) (Zi p)= -1 then -1 else Lib.index (Zu ps) (Zi p)+5:=by
     generalize hI:Lib.index (Zu ps) (Zi p)=I;have hI1: -1≤I:=by rw [←hI];exact Lib.index_ge _ _
     have e5:∀x y z u:UInt8,Lib.index (x::y::z::u::32::Zu ps) (Zi p)=if Lib.index (Zu ps) (Zi p)= -1 then(if(Zi p).isPrefixOf (x::y::z::u::32::Zu ps) then 0 else -1) else(if(Zi p).isPrefixOf (x::y::z::u::32::Zu ps) then 0 else Lib.index (Zu ps) (Zi p)+5):=by
      intro x y z u;have i4:Lib.index (32::Zu ps) (Zi p)=if Lib.index (Zu ps) (Zi p)= -1 then -1 else Lib.index (Zu ps) (Zi p)+1:=ZfI (by simp [Zi,List.isPrefixOf,beq_eq_false_iff_ne.2 n1])
      have i3:Lib.index (u::32::Zu ps) (Zi p)=if Lib.index (32::Zu ps) (Zi p)= -1 then -1 else Lib.index (32::Zu ps) (Zi p)+1:=ZfI (by simp [Zi,List.isPrefixOf,beq_eq_false_iff_ne.2 n2])
      have i2:Lib.index (z::u::32::Zu ps) (Zi p)=if Lib.index (u::32::Zu ps) (Zi p)= -1 then -1 else Lib.index (u::32::Zu ps) (Zi p)+1:=ZfI (by simp [Zi,List.isPrefixOf,beq_eq_false_iff_ne.2 n3])
      have i1:Lib.index (y::z::u::32::Zu ps) (Zi p)=if Lib.index (z::u::32::Zu ps) (Zi p)= -1 then -1 else Lib.index (z::u::32::Zu ps) (Zi p)+1:=ZfI (by simp [Zi,List.isPrefixOf,beq_eq_false_iff_ne.2 n4])
      have i0:Lib.index (x::y::z::u::32::Zu ps) (Zi p)=if(Zi p).isPrefixOf (x::y::z::u::32::Zu ps) then 0 else if Lib.index (y::z::u::32::Zu ps) (Zi p)== -1 then -1 else Lib.index (y::z::u::32::Zu ps) (Zi p)+1:=by rw [Lib.index]
      rw [i0,i1,i2,i3,i4,hI];by_cases h1:I= -1
      · simp [h1]
      · have k1:¬I+1= -1:=by omega
        have k2:¬I+1+1= -1:=by omega
        have k3:¬I+1+1+1= -1:=by omega
        have k4:¬I+1+1+1+1= -1:=by omega
        simp only [h1,k1,k2,k3,k4,if_false,beq_iff_eq];split
        · rfl
        · omega
     have:=e5 (Zp (q / 4096)) (Zp (q / 256 % 16)) (Zp (q / 16 % 16)) (Zp (q % 16));have h0':(Zi p).isPrefixOf (Zp (q / 4096)::Zp (q / 256 % 16)::Zp (q / 16 % 16)::Zp (q % 16)::32::Zu ps)=false:=h0;rw [h0',hI] at this;exact this
    rw [hr,ih];simp only [fnd,if_neg e];by_cases h2:fnd ps p= -1
    · simp [h2]
    · have k:¬5*fnd ps p= -1:=by omega
      have k':¬fnd ps p+1= -1:=by omega
      simp only [h2,k,k',if_false];omega
end Go.Proofs.YtlglfmbccihopaaGreatDoor
namespace Go.Proofs.YtlglfmbccihopaaGreatDoor
open Go Go.RowKit
theorem Zeb (p:Int)(w:World):
 Calls Tryz.prog 317 #[.int .i32 p] w fun e w'=>e= .returned (.bool (Zf p))∧w=w':=by
 go_enter Tryz.func317,Tryz.ntmps317
 go_wp2
 all_goals (go_ret;exact⟨Zh7 (by rw [Bool.eq_iff_iff,Zab];simp;try omega),rfl⟩)
theorem ZsN {p:Int} (h:Zf p=true):Lib.runeLen p=(Lib.encodeRune p).length:=by
 unfold Lib.runeLen;rcases ZkV h with⟨h0,h1⟩|⟨h0,h1⟩|h3|⟨h0,h1⟩
 · rw [ZdC h0 h1];simp only [List.length_cons,List.length_nil];repeat' split
   all_goals omega
 · rw [Zfr h0 h1];simp only [List.length_cons,List.length_nil];repeat' split
   all_goals omega
 · rw [Zfq h3];simp only [List.length_cons,List.length_nil];repeat' split
   all_goals omega
 · rw [Zfp h0 h1];simp only [List.length_cons,List.length_nil];repeat' split
   all_goals omega
theorem Zjo {p:Int} (h:Zf p=true)(w:World):
 Calls Tryz.prog 318 #[.int .i32 p] w fun e w'=>e= .returned (.int .i64 (Lib.encodeRune p).length)∧w=w':=
 (Tryz.utf8_RuneLen p w).mono fun _ _ ⟨he,hw⟩=>⟨by rw [he,ZsN h],hw.symm⟩
def ZB (ps:List Int):List Int:=ps.flatMap Lib.encodeRuneZ
theorem Zgh (a:List Int)(p:Int):ZB (a++[p])=ZB a++Lib.encodeRuneZ p:=by simp [ZB]
theorem Zgg (ps:List Int):(ZB ps).length=(Zc ps).length:=by
 induction ps with
 |nil=>rfl
 |cons p ps ih=>
  rw [Zax,List.length_append,←ih];simp [ZB,Lib.encodeRune]
theorem Zgd (ps:List Int):strOfNums (ZB ps)=⟨(Zc ps).toArray⟩:=by
 unfold strOfNums;congr 2
 induction ps with
 |nil=>rfl
 |cons p ps ih=>
  rw [Zax,←ih];simp [ZB,Lib.encodeRune]
theorem Zac.get {w:World} {B:Nat} {k:IntKind} {A:Option Addr} {zs:List Int} {i:Nat} (h:Zac w B k A zs)(hi:i<zs.length):
 ∃ad p,A=some ad∧ad.block<B∧w.cell? (ad.add i)=some (.int k p)∧Hid (zs.getD i 0=p)∧p∈zs:=by
 obtain⟨ad,e,hb,hc⟩:=h.at_ hi;exact⟨ad,_,e,hb,hc,rfl,Zc9 hi⟩
theorem Zj1:(Tryz.prog.info? 5).map (fun i=>(i.zero,i.size,i.bytes))=some (some (.int .u8 0),1,1):=by kernel_rfl
theorem ZsO:(Tryz.prog.info? 21).map (fun i=>(i.zero,i.size,i.bytes))=some (some (.int .i32 0),1,4):=by kernel_rfl
def Zpl (ps:List Int)(w0:World)(b i:Value)(wr:World):Prop:=
 ∃k:Nat,k≤ps.length∧i= .int .i64 k∧wr.ownsRow w0.heap.size 5 1 b (ZB (ps.take k)).length ((ZB (ps.take k)).map (Value.int .u8))∧Below w0.heap.size w0 wr
def Zjw (ps:List Int)(sz i:Value):Prop:=∃k:Nat,k≤ps.length∧i= .int .i64 k∧sz= .int .i64 (Zc (ps.take k)).length
theorem ZjA (A:Option Addr)(c:Nat)(ps:List Int)(w:World){B:Nat} (hn:Zac w B .i32 A ps)(hB:B≤w.heap.size)(hps:∀p∈ps,Zf p=true)(hl:ps.length≤35184372088000):
 Calls Tryz.prog 260 #[.slice A ps.length c] w fun e w'=>e= .returned (.tuple #[.string ⟨(Zc ps).toArray⟩,.bool true])∧Below w.heap.size w w':=by
 obtain⟨i0,hi,hz0,hz1,hz2⟩:=info_parts Zj1;go_enter Tryz.func260,Tryz.ntmps260
 go_wp2_with fail
 go_loop [4,12] (fun sz i=>Zjw ps sz i) (fun _ i=>ps.length - (intOf i).toNat)
 case atStart=>exact⟨0,Nat.zero_le _,rfl,rfl⟩
 case round=>
  obtain⟨k,hk,rfl,rfl⟩:=hrel;have h4:=(ZaL (ps.take k)).2;rw [List.length_take] at h4;by_cases hlt:k<ps.length
  · obtain⟨ad,p,rfl,_,hc,hp,hm⟩:=hn.get hlt;have hs:=hps p hm;have hlen:=ZbO p;have hnext:Hid ((Zc (ps.take (k+1))).length=(Zc (ps.take k)).length+(Lib.encodeRune p).length):=by
     rw [ZcW hlt,hp.out,Zis,List.length_append];rfl
    clear hps hn;go_wp2_with (first|(go_at_call 317;refine(Zeb _ _).mono ?_;rintro e w' ⟨rfl,rfl⟩)|(go_at_call 318;refine(Zjo hs _).mono ?_;rintro e w' ⟨rfl,rfl⟩))
    go_round
    case rel=>exact⟨k+1,by omega,by go_num,by rw [hnext.out];go_num⟩
    case measure=>simp [intOf];omega
  · have hk2:k=ps.length:=by omega
    subst hk2;rw [List.take_length] at h4⊢;clear hlt;go_wp2_with (at_make;refine wpList_make_own _ rfl _ _ 96 rfl w.heap.size 5 i0 (.int .u8 0) 1 Tryz.underlying96 hi hz0 hz1 .i64 .i64 _ (Zc ps).length rfl rfl rfl (by rw [hz2];omega) (by unfold maxLen;omega) (Nat.le_refl _) ?_;intro w1 hown hgrow)
    have hb1:Below w.heap.size w w1:=(Below.refl _ _).grown hgrow (Nat.le_refl _) (by simp);clear hgrow;go_loopw [7,28] (fun b i wr=>Zpl ps w b i wr) (fun _ i _=>ps.length - (intOf i).toNat)
    case atStart=>exact⟨0,Nat.zero_le _,rfl,hown,hb1⟩
    case round=>
     obtain⟨k,hk,rfl,hownk,hbk⟩:=hrel;have hnk:=hn.below (hbk.mono hB);have hsz:=hbk.size;have h4k:=(ZaL (ps.take k)).2;rw [List.length_take] at h4k;have hzl:=Zgg (ps.take k);by_cases hlt:k<ps.length
     · obtain⟨ad,p,rfl,_,hc,hp,hm⟩:=hnk.get hlt;have hs:=Zab.1 (hps p hm);have hlen:=ZbO p;have hcap:(ZB (ps.take k)).length+4≤140737488355328:=by omega
       have hnext:Hid ((ZB (ps.take (k+1))).map (Value.int .u8)=(ZB (ps.take k)).map (Value.int .u8)++Lib.runeCells p):=by
        rw [ZcW hlt,hp.out,Zgh,List.map_append];rfl
       have hnext2:Hid ((ZB (ps.take (k+1))).length=(ZB (ps.take k)).length+(Lib.runeCells p).length):=by
        have:=congrArg List.length hnext.out;simp only [List.length_map,List.length_append] at this;exact this
       clear hps hn hnk h4k hzl hown;go_wp2_with (go_at_call 148;refine(Tryz.utf8_AppendRune_plain _ _ _ _ p (by omega) (by omega) _ hownk hcap hsz).mono ?_;rintro e w2 ⟨v',rfl,hown2,o,hg2⟩)
       have hb2:Below w.heap.size w w2:=Zad (hbk.alloc hsz o) (hownk.alloc o) hg2 (by simp;omega) (Nat.le_refl _);rw [←hnext.out,←hnext2.out] at hown2;go_roundw
       case rel=>exact⟨k+1,by omega,by go_num,hown2,hb2⟩
       case measure=>simp [intOf];omega
     · have hk2:k=ps.length:=by omega
       subst hk2;rw [List.take_length] at hownk;clear hlt;have hconv:=Zdx (P:=Tryz.prog) 96 9 5 Tryz.underlying96 Tryz.underlying5 Tryz.underlying9 wr hownk;rw [Zgd] at hconv;go_wp2_with fail
       go_ret2
       exact⟨rfl,hbk⟩
def AllRel (ps:List Int)(i:Value):Prop:=∃k:Nat,k≤ps.length∧i= .int .i64 k∧∀p∈ps.take k,Zf p=true
theorem Zpm (A:Option Addr)(c:Nat)(ps:List Int)(w:World){B:Nat} (hn:Zac w B .i32 A ps)(hps:¬∀p∈ps,Zf p=true)(hl:ps.length≤35184372088000):
 Calls Tryz.prog 260 #[.slice A ps.length c] w fun e w'=>e= .returned (.tuple #[.string ⟨#[]⟩,.bool false])∧w=w':=by
 go_enter Tryz.func260,Tryz.ntmps260
 go_wp2_with fail
 go_loop [4,12] (fun sz i=>Zjw ps sz i∧AllRel ps i) (fun _ i=>ps.length - (intOf i).toNat)
 case atStart=>exact⟨⟨0,Nat.zero_le _,rfl,rfl⟩,0,Nat.zero_le _,rfl,by simp⟩
 case round=>
  obtain⟨⟨k,hk,rfl,rfl⟩,k',_,hkk,hall⟩:=hrel;have hkk':k'=k:=by injection hkk with _ h;omega
  subst hkk';have h4:=(ZaL (ps.take k')).2;rw [List.length_take] at h4;by_cases hlt:k'<ps.length
  · obtain⟨ad,p,rfl,_,hc,hp,hm⟩:=hn.get hlt;by_cases hs:Zf p=true
    · have hlen:=ZbO p;have hnext:Hid ((Zc (ps.take (k'+1))).length=(Zc (ps.take k')).length+(Lib.encodeRune p).length):=by
       rw [ZcW hlt,hp.out,Zis,List.length_append];rfl
      have hall':∀q∈ps.take (k'+1),Zf q=true:=by
       rw [ZcW hlt,hp.out];intro q hq;rcases List.mem_append.1 hq with h|h
       · exact hall q h
       · rw [List.mem_singleton.1 h];exact hs
      have Hall:=Lib.hid hall';clear hps hn hall hall' hkk;go_wp2_with (first|(go_at_call 317;refine(Zeb _ _).mono ?_;rintro e w' ⟨rfl,rfl⟩)|(go_at_call 318;refine(Zjo hs _).mono ?_;rintro e w' ⟨rfl,rfl⟩))
      go_round
      case rel=>exact⟨⟨k'+1,by omega,by go_num,by rw [hnext.out];go_num⟩,k'+1,by omega,by go_num,Hall.out⟩
      case measure=>simp [intOf];omega
    · have hs2:Zf p=false:=by simpa using hs
      clear hps hn hall hkk hs;go_wp2_with (first|(go_at_call 317;refine(Zeb _ _).mono ?_;rintro e w' ⟨rfl,rfl⟩))
      go_ret2
      exact⟨rfl,rfl⟩
  · exfalso
    have hk2:k'=ps.length:=by omega
    subst hk2;rw [List.take_length] at hall;exact hps hall
theorem Zl0 {w:World} {base:Nat} {e:TypeId} {size:Nat} {v:Value} {n:Nat} {xs:List Value} (h:w.ownsRow base e size v n xs){K:Nat} {s:ByteArray} {i:Nat} (hk:w.heap[K]? =some (.stringIter s i))(j:Nat):
 (w.iterAt K s j).ownsRow base e size v n xs:=by
 refine⟨h.1,?_⟩;rcases h.2 with hn|⟨g,cap,cur,hv,hb,hg,rest⟩
 · exact .inl hn
 · refine .inr ⟨g,cap,cur,hv,hb,?_,rest⟩;have hne:g≠K:=by
    rintro rfl;rw [hg] at hk;cases hk
   rw [Lib.iterAt_other _ _ _ _ _ hne];exact hg
theorem Zlf {w:World} {base:Nat} {e:TypeId} {size:Nat} {v:Value} {n:Nat} {xs:List Value} (h:w.ownsRow base e size v n xs){K:Nat} {s:ByteArray} {i:Nat} (hk:w.heap[K]? =some (.stringIter s i)):some K≠v.ownBlock:=by
 rcases h.2 with⟨rfl,_⟩|⟨g,cap,cur,rfl,hb,hg,rest⟩
 · simp [Value.ownBlock]
 · intro he;have:K=g:=by simpa [Value.ownBlock] using he
   subst this;rw [hg] at hk;cases hk
theorem ZcI {w:World} {K:Nat} {s:ByteArray} {i:Nat} (hk:w.heap[K]? =some (.stringIter s i)):w.iterPos K=i:=by
 simp [World.iterPos,hk]
theorem ZhC {w:World} {K:Nat} {s:ByteArray} {i:Nat} (hk:w.heap[K]? =some (.stringIter s i)):K<w.heap.size:=(Array.getElem?_eq_some_iff.1 hk).1
theorem ZfQ {P:Program} {s:ByteArray} {ps:List Int} {k i n:Nat} {p:Int} (h:Step s ps k i p n)(hi:i<s.size)(w:World)(K:Nat)(hk:w.heap[K]? =some (.stringIter s i))(ty:TypeId):
 (Instr.next (.pointer (some ⟨K,0,none⟩)) true ty).run P w= .ok (.tuple #[.bool true,.int .i64 i,.int .i32 p]) (w.iterAt K s (i+n)):=by
 obtain⟨⟨t,ht⟩,hn,_,hs⟩:=h;rw [Lib.run_next_any_at w K s i ty hk hi,Zhe,ht,Zdy hs,hn];have e:((p.toNat:Nat):Int)=p:=by have:=Zab.1 hs;omega
 simp only [e]
def ZoJ (ps:List Int)(s:ByteArray)(w0:World)(O:Obj)(K:Nat)(v:Value)(wr:World):Prop:=
 ∃k i:Nat,Run ps k i∧wr.heap[K]? =some (.stringIter s i)∧wr.ownsRow (w0.heap.size+1) 21 1 v k ((ps.take k).map (Value.int .i32))∧Below (w0.heap.size+1) (w0.alloc O) wr
theorem Zl2 {w:World} {base:Nat} {e:TypeId} {size n:Nat} {ad:Addr} {l c:Nat} {xs:List Value} (h:w.ownsRow base e size (.slice (some ad) l c) n xs):ad.spot=none:=by
 rcases h.2 with⟨h,_⟩|⟨g,cap,cur,h,_⟩
 · cases h
 · injection h with h
   injection h with h
   subst h;rfl
theorem Zsa {w:World} {base:Nat} {e:TypeId} {n:Nat} {ad:Addr} {l c:Nat} {zs:List Int} {k:IntKind} (h:w.ownsRow base e 1 (.slice (some ad) l c) n (zs.map (Value.int k))):∃cs fr,w.heap[ad.block]? =some (.cells cs e fr)∧∀j,j<zs.length→cs[ad.off+j]? =some (.int k (zs.getD j 0)):=by
 have hl:zs.length=n:=by simpa using h.1
 rcases h.2 with⟨h,_⟩|⟨g,cap,cur,h,_,hg,hn,_,hs,ht⟩
 · cases h
 · injection h with h
   injection h with h
   subst h;refine⟨cur,(0,0),hg,fun j hj=> ?_⟩;have h1:(cur.toList.take (n*1))[j]? =(zs.map (Value.int k))[j]?:=by rw [ht]
   rw [List.getElem?_take_of_lt (by omega),List.getElem?_map,List.getElem?_eq_getElem hj,Array.getElem?_toList] at h1;rw [Nat.zero_add,h1,List.getD,List.getElem?_eq_getElem hj];rfl
theorem ZoL (s:ByteArray)(ps:List Int)(hg:Good s ps)(hs:s.size≤35184372088000)(w:World)(hT:Zh w):
 Calls Tryz.prog 275 #[.string s] w fun e w'=>∃A c,e= .returned (.tuple #[.slice A ps.length c,.agg #[.int .i64 0,.int .i64 0]])∧ps.length≤c∧Zac w' w'.heap.size .i32 A ps∧(∀ad,A=some ad→w.heap.size≤ad.block∧ad.spot=none∧∃cs fr,w'.heap[ad.block]? =some (.cells cs 21 fr)∧∀j,j<ps.length→cs[ad.off+j]? =some (.int .i32 (ps.getD j 0)))∧Below w.heap.size w w':=by
 obtain⟨i0,hi,iz0,iz1,iz2⟩:=info_parts ZsO;have hlen:=hg.len;have hp:=hg.pre;go_enter Tryz.func275,Tryz.ntmps275
 go_wp2_with (go_at_call 196;refine(Zie s ps hg (by omega) _ (by first|exact hT|exact Zx hT _)).mono ?_;rintro e w1 ⟨rfl,hb1⟩;have hz1:=Za3 hb1;have HB1:=hb1.mono (B':=w.heap.size+1) (by simp);obtain⟨hc0,hc1,hf0,hf1,hlt1⟩:=Zbq HB1)
 refine(Zdq _ _ _).mono ?_;rintro e w2 ⟨rfl,hb2⟩;have hz2:=Za3 hb2;have HB2:=(HB1.alloc (by omega) _).trans (hb2.mono (by simp;omega));clear hb1 hc0 hc1 hf0 hf1 hlt1 hb2;go_wp2_with (at_make;refine wpList_make_own _ rfl _ _ 314 rfl (w.heap.size+1) 21 i0 (.int .i32 0) 1 Tryz.underlying314 hi iz0 iz1 .i64 .i64 _ ps.length rfl rfl rfl (by rw [iz2];omega) (by unfold maxLen;omega) (by omega) ?_;intro w3 hown hgrow)
 have HB3:=HB2.grown hgrow (by omega) (by simp);have hz3:=hgrow.size;have hown':=hown.alloc (.stringIter s 0);have hit:=World.iter_heap w3 s 0;clear hown hgrow HB2 HB1;go_loopw [6] (fun v wr=>ZoJ ps s w (.cells #[.int .i64 0,.int .i64 0] 39) w3.heap.size v wr) (fun _ wr=>s.size+1 - wr.iterPos w3.heap.size)
 case atStart=>exact⟨0,0,Run.zero _,hit,hown',HB3.alloc (by omega) _⟩
 case round=>
  obtain⟨k,i,hrun,hK,hownk,hbk⟩:=hrel;have hle:=hrun.le hp;have hKlt:=ZhC hK;by_cases hk:k<ps.length
  · obtain⟨p,n,hst,hrun',hn1,hn4,hin,hp0,hp1,_⟩:=hrun.step hp hk;have hstep:=fun ty=>ZfQ (P:=Tryz.prog) hst (by omega) wr w3.heap.size hK ty;have hown1:=Zl0 hownk hK (i+n);have hK1:=Lib.iterAt_heap wr w3.heap.size s i (i+n) hK;have hb1:=Lib.below_iterAt hbk (k:=w3.heap.size) (by omega) s (i+n);have hsz1:(wr.iterAt w3.heap.size s (i+n)).heap.size=wr.heap.size:=Lib.iterAt_size _ _ _ _;have hpos:=ZcI hK;have hcell:=cell_one_new (wr.iterAt w3.heap.size s (i+n)) (.int .i32 p) 21;rw [hsz1] at hcell;have hw4:w.heap.size+1≤((wr.iterAt w3.heap.size s (i+n)).alloc (.cells #[.int .i32 p] 21)).heap.size:=by simp;omega
    have hnext:Hid ((ps.take (k+1)).map (Value.int .i32)=(ps.take k).map (Value.int .i32)++[.int .i32 p]):=by
     rw [hst.snoc hk,List.map_append];rfl
    have hK2:=Below.heap_alloc (wr.iterAt w3.heap.size s (i+n)) (.cells #[.int .i32 p] 21) w3.heap.size (by omega);rw [hK1] at hK2;clear hown';go_wp2_with (at_builtin;refine wpList_append_own _ rfl _ _ 314 rfl (w.heap.size+1) 21 i0 (.int .i32 0) 1 4 Tryz.underlying314 hi iz0 iz1 iz2 rfl (by decide) u6 k _ rfl (hown1.alloc _) ⟨wr.heap.size,0,none⟩ 1 1 [.int .i32 p] rfl rfl hcell (by intro u hu;simp at hu;subst hu;rfl) (by unfold maxLen;omega) (by omega) hw4 ?_;intro v' w5 hown5 hg5 _)
    have hK5:=(hg5.block w3.heap.size (by simp;omega) (Zlf hownk hK)).trans hK2;rw [←hnext.out] at hown5;have hb5:=Zad (hb1.alloc (by omega) (.cells #[.int .i32 p] 21)) (hown1.alloc _) hg5 hw4 (Nat.le_refl _);refine⟨⟨k+1,i+n,hrun',hK5,hown5,hb5⟩,?_⟩;rw [hpos,ZcI hK5];omega
  · have hk2:k=ps.length:=by omega
    subst hk2;obtain⟨hi,_,hie⟩:=hrun.end_ hp;have hend:=fun ty=>Lib.run_next_end_at (P:=Tryz.prog) wr w3.heap.size s i ty hK (by simp at hie;omega);obtain⟨hc0,hc1,hf0,hf1,hlt1⟩:=Zbq hbk;rw [List.take_length] at hownk;clear hown';go_wp2_with fail
    obtain⟨A,c,hv,hcap,_,_⟩:=Zac.of_own hownk;have hownF:=ownsRow_setCell_below (ownsRow_setCell_below hownk (a:=⟨w.heap.size,0,none⟩) (Nat.lt_succ_self _) (.int .i64 0)) (a:=⟨w.heap.size,1,none⟩) (Nat.lt_succ_self _) (.int .i64 0);subst hv;obtain⟨A',c',hv',_,_,hnF⟩:=Zac.of_own hownF;simp only [Value.slice.injEq] at hv';obtain⟨rfl,_,_⟩:=hv';refine bodyPost_ret (v:= .tuple #[.slice A ps.length c,.agg #[.int .i64 0,.int .i64 0]]) (by simp [results,Tryz.results275,go_sem,hc0,hc1]) rfl ⟨A,c,rfl,hcap,hnF,fun ad had=>by subst had;have:=(hownF.lt _ rfl).1;exact⟨by omega,Zl2 hownF,Zsa hownF⟩,?_⟩;exact(((((Below.refl _ w).alloc (Nat.le_refl _) _).trans (hbk.mono (by omega))).setCell (Nat.le_refl _) _).setCell (Nat.le_refl _) _)
theorem ZoK (s:ByteArray)(n:Nat)(hg:ZaF s n)(hs:s.size≤35184372088000)(w:World)(hT:Zh w):
 Calls Tryz.prog 275 #[.string s] w fun e w'=>e= .returned (.tuple #[.slice none 0 0,.agg #[.int .i64 2,.int .i64 n]])∧Below w.heap.size w w':=by
 go_enter Tryz.func275,Tryz.ntmps275
 go_wp2_with (go_at_call 196;refine(Zid s n hg (by omega) _ (by first|exact hT|exact Zx hT _)).mono ?_;rintro e w1 ⟨rfl,hb1⟩;have hz1:=Za3 hb1;have HB1:=hb1.mono (B':=w.heap.size+1) (by simp);obtain⟨hc0,hc1,hf0,hf1,hlt1⟩:=Zbq HB1)
 refine(Zdq _ _ _).mono ?_;rintro e w2 ⟨rfl,hb2⟩;have hz2:=Za3 hb2;have HB2:=(HB1.alloc (by omega) _).trans (hb2.mono (by simp;omega));have hbx:=Zbq (hb2.mono (by simp));obtain⟨hd0,hd1,he0,he1,hlt2⟩:=hbx;clear hc0 hc1 hf0 hf1;obtain⟨hc0,hc1,hf0,hf1,hlt3⟩:=Zbq HB2;go_wp2_with fail
 go_region
 go_wp2_with fail
 refine bodyPost_ret (v:= .tuple #[.slice none 0 0,.agg #[.int .i64 2,.int .i64 n]]) (by simp [results,Tryz.results275,go_sem,hc0,hc1]) rfl ⟨rfl,?_⟩;exact(((((Below.refl _ w).alloc (Nat.le_refl _) _).trans (HB2.mono (by omega))).setCell (Nat.le_refl _) _).setCell (Nat.le_refl _) _).drew
theorem ZjC (s:ByteArray)(hs:s.size≤140737488355328)(w:World)(hT:Zh w):
 Calls Tryz.prog 72 #[.string s] w fun e w'=>e= .returned (.bool (Lib.validD s.data.toList))∧Below w.heap.size w w':=by
 have hv:=Any.utf8_ValidString Tryz.laysValid s w (by omega) hT;go_enter Tryz.func72,Tryz.ntmps72
 go_wp2_with (go_at_call 143;refine hv.mono ?_;rintro e w1 ⟨rfl,hb1⟩)
 go_ret
 exact⟨rfl,hb1⟩
end Go.Proofs.YtlglfmbccihopaaGreatDoor
namespace Go.Proofs.YtlglfmbccihopaaGreatDoor
open Go
def Zl (big:Bool)(a b:UInt8):Int:=if big then(a.toNat:Int)*256+b.toNat else(b.toNat:Int)*256+a.toNat
def Zm (big:Bool):List UInt8→Int×Nat
 |a::b::r=>
  if Zl big a b<55296∨57344≤Zl big a b then(Zl big a b,2)
  else if 56320≤Zl big a b then(0,0)
  else match r with
   |c::d::_=>if Zl big c d<56320∨57344≤Zl big c d then(0,0) else(65536+(Zl big a b - 55296)*1024+(Zl big c d - 56320),4)
   |_=>(0,0)
 |_=>(0,0)
def two (big:Bool)(u:Int):List UInt8:=if big then [(u / 256).toNat.toUInt8,(u % 256).toNat.toUInt8] else [(u % 256).toNat.toUInt8,(u / 256).toNat.toUInt8]
def ZaE (big:Bool)(p:Int):List UInt8:=if p<65536 then two big p else two big (55296+(p - 65536) / 1024)++two big (56320+(p - 65536) % 1024)
def ZI (big:Bool)(ps:List Int):List UInt8:=ps.flatMap (ZaE big)
theorem Zd3 (big:Bool):ZI big []=[]:=rfl
theorem Zd2 (big:Bool)(p:Int)(ps:List Int):ZI big (p::ps)=ZaE big p++ZI big ps:=rfl
theorem ZiE (big:Bool)(a b:List Int):ZI big (a++b)=ZI big a++ZI big b:=by simp [ZI]
theorem Zgk (big:Bool)(a b:UInt8):0≤Zl big a b∧Zl big a b<65536:=by
 have:=a.toNat_lt;have:=b.toNat_lt;unfold Zl;split<;>omega
theorem Zit (big:Bool){u:Int} (h0:0≤u)(h1:u<65536):∃a b,two big u=[a,b]∧Zl big a b=u:=by
 cases big
 · refine⟨_,_,rfl,?_⟩;simp only [Zl,Bool.false_eq_true,if_false,Zbi (u / 256) (by omega) (by omega),Zbi (u % 256) (by omega) (by omega)];omega
 · refine⟨_,_,rfl,?_⟩;simp only [Zl,if_true,Zbi (u / 256) (by omega) (by omega),Zbi (u % 256) (by omega) (by omega)];omega
theorem Ziu (big:Bool)(a b:UInt8):two big (Zl big a b)=[a,b]:=by
 have:=a.toNat_lt;have:=b.toNat_lt;cases big<;>simp only [two,Zl,Bool.false_eq_true,if_false,if_true,List.cons.injEq,and_true]<;>exact⟨ZaS (by omega),ZaS (by omega)⟩
theorem ZtK (big:Bool)(u:Int):(two big u).length=2:=by unfold two;split<;>rfl
theorem Zgm (big:Bool)(p:Int):(ZaE big p).length=if p<65536 then 2 else 4:=by
 unfold ZaE;split<;>simp [ZtK]
theorem ZeS (big:Bool)(p:Int):2≤(ZaE big p).length∧(ZaE big p).length≤4:=by
 rw [Zgm];split<;>omega
theorem Znr (big:Bool)(p:Int):ZaE big p≠[]:=by
 intro h;have:=(ZeS big p).1;rw [h] at this;simp at this
theorem Znv (big:Bool){p:Int} (h:Zf p=true)(t:List UInt8):Zm big (ZaE big p++t)=(p,(ZaE big p).length):=by
 rw [Zab] at h;rw [Zgm];unfold ZaE;by_cases hp:p<65536
 · rw [if_pos hp,if_pos hp];obtain⟨a,b,e,hu⟩:=Zit big (u:=p) (by omega) hp;rw [e];simp only [List.cons_append,List.nil_append,Zm,hu];rw [if_pos (by omega)]
 · rw [if_neg hp,if_neg hp];obtain⟨a,b,e,hu⟩:=Zit big (u:=55296+(p - 65536) / 1024) (by omega) (by omega);obtain⟨c,d,e2,hv⟩:=Zit big (u:=56320+(p - 65536) % 1024) (by omega) (by omega);rw [e,e2];simp only [List.cons_append,List.nil_append,Zm,hu,hv];rw [if_neg (by omega),if_neg (by omega),if_neg (by omega)];exact Prod.ext (by simp only;omega) rfl
theorem Zt9 (big:Bool){l:List UInt8} (he:(Zm big l).2≠0):∃t,l=ZaE big (Zm big l).1++t∧Zf (Zm big l).1=true∧(ZaE big (Zm big l).1).length=(Zm big l).2:=by
 match l with
 |[]=>exact absurd rfl he
 |[_]=>exact absurd rfl he
 |a::b::r=>
  have hu:=Zgk big a b;by_cases h1:Zl big a b<55296∨57344≤Zl big a b
  · simp only [Zm,if_pos h1];refine⟨r,?_,by rw [Zab];omega,by rw [Zgm,if_pos (by omega)]⟩;rw [ZaE,if_pos (by omega),Ziu];rfl
  · by_cases h2:56320≤Zl big a b
    · simp only [Zm,if_neg h1,if_pos h2] at he;exact absurd rfl he
    · match r with
      |[]=>simp only [Zm,if_neg h1,if_neg h2] at he;exact absurd rfl he
      |[_]=>simp only [Zm,if_neg h1,if_neg h2] at he;exact absurd rfl he
      |c::d::r=>
       have hv:=Zgk big c d;by_cases h3:Zl big c d<56320∨57344≤Zl big c d
       · simp only [Zm,if_neg h1,if_neg h2,if_pos h3] at he;exact absurd rfl he
       · simp only [Zm,if_neg h1,if_neg h2,if_neg h3];refine⟨r,?_,by rw [Zab];omega,by rw [Zgm,if_neg (by omega)]⟩;rw [ZaE,if_neg (by omega)];have e1:55296+(65536+(Zl big a b - 55296)*1024+(Zl big c d - 56320) - 65536) / 1024=Zl big a b:=by omega
         have e2:56320+(65536+(Zl big a b - 55296)*1024+(Zl big c d - 56320) - 65536) % 1024=Zl big c d:=by omega
         rw [e1,e2,Ziu,Ziu];rfl
def Zc3 (big:Bool)(s:ByteArray)(ps:List Int)(r:List UInt8):Prop:=s.data.toList=ZI big ps++r∧∀p∈ps,Zf p=true
def Zfd (big:Bool)(s:ByteArray)(ps:List Int):Prop:=Zc3 big s ps []
def Zfc (big:Bool)(s:ByteArray)(n:Nat):Prop:=∃ps r,Zc3 big s ps r∧n=(ZI big ps).length∧r≠[]∧(Zm big r).2=0
def ZaI (big:Bool)(ps:List Int)(k i:Nat):Prop:=k≤ps.length∧i=(ZI big (ps.take k)).length
theorem Zm7 (big:Bool):∀n (l:List UInt8),l.length≤n→∃ps r,l=ZI big ps++r∧(∀p∈ps,Zf p=true)∧(r=[]∨(Zm big r).2=0)
 |0,l,h=>⟨[],[],by simpa [Zd3] using h,by simp,.inl rfl⟩
 |n+1,l,h=>by
  by_cases he:(Zm big l).2=0
  · exact⟨[],l,by simp [Zd3],by simp,.inr he⟩
  obtain⟨t,ht,hs,_⟩:=Zt9 big he;have hlt:t.length≤n:=by
   have h1:=congrArg List.length ht;rw [List.length_append] at h1;have:=(ZeS big (Zm big l).1).1;omega
  obtain⟨ps,r,h1,h2,h3⟩:=Zm7 big n t hlt;refine⟨(Zm big l).1::ps,r,?_,?_,h3⟩
  · rw [Zd2,List.append_assoc,←h1];exact ht
  · intro p hp;rcases List.mem_cons.1 hp with rfl|hp
    · exact hs
    · exact h2 p hp
theorem Zt4 (big:Bool)(s:ByteArray):(∃ps,Zfd big s ps)∨∃n,Zfc big s n:=by
 obtain⟨ps,r,h1,h2,h3⟩:=Zm7 big _ s.data.toList (Nat.le_refl _);by_cases hr:r=[]
 · subst hr;exact .inl ⟨ps,h1,h2⟩
 · exact .inr ⟨_,ps,r,⟨h1,h2⟩,rfl,hr,h3.resolve_left hr⟩
theorem ZaI.zero (big:Bool)(ps:List Int):ZaI big ps 0 0:=⟨Nat.zero_le _,rfl⟩
theorem ZaI.drop {big:Bool} {s:ByteArray} {ps:List Int} {r:List UInt8} {k i:Nat} (hp:Zc3 big s ps r)(h:ZaI big ps k i):s.data.toList.drop i=ZI big (ps.drop k)++r:=by
 have e:ZI big ps=ZI big (ps.take k)++ZI big (ps.drop k):=by rw [←ZiE,List.take_append_drop]
 rw [hp.1,e,List.append_assoc,h.2,List.drop_left]
theorem ZaI.next {big:Bool} {ps:List Int} {k i:Nat} (h:ZaI big ps k i)(hk:k<ps.length):ZaI big ps (k+1) (i+(ZaE big (ps.getD k 0)).length):=
 ⟨hk,by rw [ZcW hk,ZiE,List.length_append,←h.2,Zd2,Zd3,List.append_nil]⟩
theorem ZaI.end_ {big:Bool} {s:ByteArray} {ps:List Int} {r:List UInt8} {i:Nat} (hp:Zc3 big s ps r)(h:ZaI big ps ps.length i):i=(ZI big ps).length∧s.data.toList.drop i=r∧i+r.length=s.size:=by
 have hd:=h.drop hp;rw [List.drop_length,Zd3,List.nil_append] at hd;have h2:=h.2;rw [List.take_length] at h2;refine⟨h2,hd,?_⟩;have hl:=congrArg List.length hp.1;rw [List.length_append] at hl;have hs:s.data.toList.length=s.size:=by simp
 omega
theorem Zlp (big:Bool)(ps:List Int):2*ps.length≤(ZI big ps).length∧(ZI big ps).length≤4*ps.length:=by
 induction ps with
 |nil=>simp [Zd3]
 |cons p ps ih=>
  have:=ZeS big p;rw [Zd2,List.length_append,List.length_cons];omega
theorem ZaI.le {big:Bool} {s:ByteArray} {ps:List Int} {r:List UInt8} {k i:Nat} (hp:Zc3 big s ps r)(h:ZaI big ps k i):2*k≤i∧i≤s.size∧k≤ps.length:=by
 have h1:=(Zlp big (ps.take k)).1;rw [List.length_take,←h.2] at h1;have h0:=h.1;have hl:=congrArg List.length hp.1;have e:ZI big ps=ZI big (ps.take k)++ZI big (ps.drop k):=by rw [←ZiE,List.take_append_drop]
 rw [e,List.length_append,List.length_append,←h.2] at hl;have hs:s.data.toList.length=s.size:=by simp
 omega
def Zc4 (big:Bool)(s:ByteArray)(ps:List Int)(k i:Nat)(p:Int)(n:Nat):Prop:=
 (∃t,s.data.toList.drop i=ZaE big p++t)∧n=(ZaE big p).length∧p=ps.getD k 0∧Zf p=true
theorem ZaI.step {big:Bool} {s:ByteArray} {ps:List Int} {r:List UInt8} {k i:Nat} (hp:Zc3 big s ps r)(h:ZaI big ps k i)(hk:k<ps.length):
 ∃(p:Int) (n:Nat),Zc4 big s ps k i p n∧ZaI big ps (k+1) (i+n)∧2≤n∧n≤4∧i+n≤s.size∧0≤p∧p≤1114111:=by
 have hd:=h.drop hp;rw [Zkq hk,Zd2,List.append_assoc] at hd;have hl:=congrArg List.length hd;rw [List.length_drop,List.length_append] at hl;have h1:=ZeS big (ps.getD k 0);have hs:s.data.toList.length=s.size:=by simp
 have hsc:=hp.2 _ (Zc9 hk);have h4:=Zab.1 hsc;exact⟨_,_,⟨⟨_,hd⟩,rfl,rfl,hsc⟩,h.next hk,h1.1,h1.2,by omega,h4.1,h4.2.1⟩
theorem Zc4.snoc {big:Bool} {s:ByteArray} {ps:List Int} {k i n:Nat} {p:Int} (h:Zc4 big s ps k i p n)(hk:k<ps.length):ps.take (k+1)=ps.take k++[p]:=by
 rw [ZcW hk,h.2.2.1]
theorem Zc4.sign {big:Bool} {s:ByteArray} {ps:List Int} {k i n:Nat} {p:Int} (h:Zc4 big s ps k i p n):Zm big (s.data.toList.drop i)=(p,n):=by
 obtain⟨⟨t,ht⟩,hn,_,hs⟩:=h;rw [ht,Znv big hs,hn]
end Go.Proofs.YtlglfmbccihopaaGreatDoor
