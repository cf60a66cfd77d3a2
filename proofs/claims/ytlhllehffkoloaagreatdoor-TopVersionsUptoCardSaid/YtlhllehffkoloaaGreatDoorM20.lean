/- Lemmas for TopVersions; conditions: as each says. -/
import Derived.Lib.Bytealg
import Derived.Deep.RegionHeld3
import Derived.Test.YtlhllehffkoloaaGreatDoorM19
set_option linter.unusedVariables false
set_option linter.unusedSimpArgs false
set_option maxRecDepth 100000
set_option maxHeartbeats 1000000
namespace Go.Proofs.YtlhllehffkoloaaGreatDoor
open Go Go.RowKit
theorem Zlw (b:Bool)(k:Nat):∀N,k<cnt b N→∃n,n<N∧Z4 n=b∧cnt b n=k
 |0,h=>absurd h (Nat.not_lt_zero _)
 |N+1,h=>by
  have hs:cnt b (N+1)=cnt b N+(if Z4 N=b then 1 else 0):=rfl;by_cases hk:k<cnt b N
  · obtain⟨n,h1,h2,h3⟩:=Zlw b k N hk;exact⟨n,by omega,h2,h3⟩
  · by_cases he:Z4 N=b
    · rw [if_pos he] at hs;exact⟨N,by omega,he,by omega⟩
    · rw [if_neg he] at hs;omega
theorem kth_ex (k:Nat)(b:Bool):∃p,ZdS k b p:=by
 by_cases h:k<cnt b 11172
 · obtain⟨n,h1,h2,h3⟩:=Zlw b k _ h;exact⟨_,.inl ⟨n,h1,h2,h3,rfl⟩⟩
 · exact⟨0,.inr ⟨by omega,rfl⟩⟩
theorem ZiN (k:Int)(b:Bool):∃p,Zch k b p:=by
 by_cases h:k<0
 · exact⟨0,.inl ⟨h,rfl⟩⟩
 · obtain⟨p,hp⟩:=kth_ex k.toNat b;exact⟨p,.inr ⟨by omega,hp⟩⟩
theorem row_ex (lead b:Int):∃p,Zbk lead b p:=by
 unfold Zbk;by_cases h1:b=255
 · exact⟨0,by rw [if_pos h1]⟩
 · by_cases h2:176≤lead∧lead≤200
   · simp only [if_neg h1,if_pos h2];exact ZiN _ _
   · exact⟨_,by rw [if_neg h1,if_neg h2]⟩
theorem ZuM {lead b p q:Int} (h1:Zbk lead b p)(h2:Zbk lead b q):p=q:=by
 unfold Zbk at h1 h2;by_cases e1:b=255
 · rw [if_pos e1] at h1 h2;omega
 · by_cases e2:176≤lead∧lead≤200
   · rw [if_neg e1,if_pos e2] at h1 h2;exact ZiO h1 h2
   · rw [if_neg e1,if_neg e2] at h1 h2;omega
theorem Zob (lead b:Int):∃p,Zaf lead b p:=by
 unfold Zaf;by_cases h1:Zan b<0∨lead<129∨254<lead
 · exact⟨0,by rw [if_pos h1]⟩
 · by_cases h2:lead<161
   · simp only [if_neg h1,if_pos h2];exact ZiN _ _
   · by_cases h3:b<161
     · simp only [if_neg h1,if_neg h2,if_pos h3];exact ZiN _ _
     · simp only [if_neg h1,if_neg h2,if_neg h3];exact row_ex _ _
theorem Zoc {lead b p q:Int} (h1:Zaf lead b p)(h2:Zaf lead b q):p=q:=by
 unfold Zaf at h1 h2;by_cases e1:Zan b<0∨lead<129∨254<lead
 · rw [if_pos e1] at h1 h2;omega
 · by_cases e2:lead<161
   · rw [if_neg e1,if_pos e2] at h1 h2;exact ZiO h1 h2
   · by_cases e3:b<161
     · rw [if_neg e1,if_neg e2,if_pos e3] at h1 h2;exact ZiO h1 h2
     · rw [if_neg e1,if_neg e2,if_neg e3] at h1 h2;exact ZuM h1 h2
theorem ZkJ {lead b p:Int} (h:Zaf lead b p)(hl:0≤lead∧lead≤255)(hb:0≤b∧b≤255)(w:World)(hD:DB w):
 Calls Tryz.prog 272 #[.int .u8 lead,.int .u8 b] w fun e w'=>e= .returned (.tuple #[.int .i32 p,.bool (p !=0)])∧Below w.heap.size w w':=
 (Zqy lead b hl hb w hD).mono fun e w' ⟨q,h1,h2,h3⟩=>by
  rw [Zoc h h2];exact⟨h1,h3⟩
theorem ZmB:Z4 1=true∧cnt true 1=1:=by decide+kernel
theorem ZmC:Z4 11171=false:=by decide+kernel
theorem ZrO:cnt false 11171=8821:=by
 have h:cnt false 11172=cnt false 11171+(if Z4 11171=false then 1 else 0):=rfl;rw [Zif,ZmC] at h;simp at h;omega
theorem Zsx:Zaf 176 162 44033:=by
 unfold Zaf;rw [if_neg (by decide),if_neg (by decide),if_neg (by decide)];unfold Zbk;rw [if_neg (by decide),if_pos (by decide)];exact .inr ⟨by decide,.inl ⟨1,by decide,ZmB.1,ZmB.2,rfl⟩⟩
theorem Zsw:Zc3 55203=50770:=by
 have h:=Zly (n:=11171) (by decide) ZmC;rw [ZrO] at h;exact h.trans (by decide)
theorem Zqq (w:World)(hD:DB w)(hm:ML w):
 Calls Tryz.prog 288 #[] w fun e w'=>e= .returned (.bool true)∧Below w.heap.size w w':=by
 have hs:=fun w=>ZkJ Zsx (by omega) (by omega) w;have hb:=fun w=>ZoP 55203 (by omega) w;unfold Zcx at hb;rw [Zsw] at hb;have e1:Zd0 50770=⟨#[198,82]⟩:=by decide
 have e2:decide ((0:Int)≤50770)=true:=by decide
 have e3:((44033:Int) !=0)=true:=by decide
 rw [e1,e2] at hb;rw [e3] at hs;clear e1 e2 e3;go_enter Tryz.func288,Tryz.ntmps288
 go_wp2_with (first|(go_at_call 272;refine(hs _ hD).mono ?_;rintro e w1 ⟨rfl,hb1⟩)|(go_at_call 335;refine(hb _ (Zez hm hb1 (Nat.le_refl _))).mono ?_;rintro e w2 ⟨rfl,hb2⟩))
 go_ret
 exact⟨rfl,hb1.trans (hb2.mono hb1.size)⟩
end Go.Proofs.YtlhllehffkoloaaGreatDoor
namespace Go.Proofs.YtlhllehffkoloaaGreatDoor
open Go
abbrev ZaR:=List Int⊕Nat
def ZaT (p:List Int):ZaR→ZaR
 | .inl l=> .inl (p++l)
 | .inr n=> .inr n
theorem ZrZ (r:ZaR):ZaT [] r=r:=by cases r<;>rfl
theorem ZlG (a b:List Int)(r:ZaR):ZaT a (ZaT b r)=ZaT (a++b) r:=by cases r<;>simp [ZaT]
def Zu (f:UInt8→UInt8→List Int):List UInt8→Nat→ZaR
 |[],_=> .inl []
 |[a],i=>if a.toNat<128 then .inl [(a.toNat:Int)] else .inr i
 |a::b::q,i=>if a.toNat<128 then ZaT [(a.toNat:Int)] (Zu f (b::q) (i+1)) else if f a b=[] then .inr i else ZaT (f a b) (Zu f q (i+2))
section
variable (f:UInt8→UInt8→List Int)
theorem Zr1 (l:List UInt8)(k:Nat)(h:k<l.length)(h1:l[k].toNat<128):Zu f (l.drop k) k=ZaT [(l[k].toNat:Int)] (Zu f (l.drop (k+1)) (k+1)):=by
 rw [List.drop_eq_getElem_cons h];cases hq:l.drop (k+1) with
 |nil=>simp [Zu,h1,ZaT]
 |cons b q=>simp [Zu,h1]
theorem Zr3 (l:List UInt8)(k:Nat)(h:k<l.length)(h1:¬l[k].toNat<128)(h2:l.length=k+1):Zu f (l.drop k) k= .inr k:=by
 rw [List.drop_eq_getElem_cons h,List.drop_of_length_le (by omega),Zu,if_neg h1]
theorem Zr2 (l:List UInt8)(k:Nat)(h:k+1<l.length)(h1:¬l[k].toNat<128)(h2:f l[k] l[k+1]=[]):Zu f (l.drop k) k= .inr k:=by
 rw [List.drop_eq_getElem_cons (by omega),List.drop_eq_getElem_cons h,Zu,if_neg h1,if_pos h2]
theorem Zr4 (l:List UInt8)(k:Nat)(h:k+1<l.length)(h1:¬l[k].toNat<128)(h2:f l[k] l[k+1]≠[]):Zu f (l.drop k) k=ZaT (f l[k] l[k+1]) (Zu f (l.drop (k+2)) (k+2)):=by
 rw [List.drop_eq_getElem_cons (by omega),List.drop_eq_getElem_cons h,Zu,if_neg h1,if_neg h2]
theorem Zr0 (l:List UInt8)(k:Nat)(h:l.length≤k):Zu f (l.drop k) k= .inl []:=by
 rw [List.drop_of_length_le h,Zu]
theorem Zil:∀(l:List UInt8) (i n:Nat),Zu f l i= .inr n→i≤n∧n<i+l.length
 |[],_,n,h=>by rw [Zu] at h;cases h
 |[a],i,n,h=>by
  rw [Zu] at h;split at h
  · cases h
  · injection h with h;subst h;simp
 |a::b::q,i,n,h=>by
  rw [Zu] at h;split at h
  · have ih:=Zil (b::q) (i+1);generalize Zu f (b::q) (i+1)=r at*;cases r with
    |inl _=>cases h
    |inr m=>injection h with h;subst h;have:=ih m rfl;simp only [List.length_cons] at*;omega
  · split at h
    · injection h with h;subst h;simp
    · have ih:=Zil q (i+2);generalize Zu f q (i+2)=r at*;cases r with
      |inl _=>cases h
      |inr m=>injection h with h;subst h;have:=ih m rfl;simp only [List.length_cons] at*;omega
end
def utfF:Nat→List UInt8→Nat→ZaR
 |0,_,_=> .inl []
 |n+1,l,i=>if l=[] then .inl [] else if ZaU (Zz l) then .inr i else ZaT [((Zz l).1:Int)] (utfF n (l.drop (Zz l).2) (i+(Zz l).2))
def Zb0 (l:List UInt8):ZaR:=utfF l.length l 0
theorem ZjL:∀(n:Nat) (ps:List Int) (r:List UInt8) (i:Nat),(Zc ps++r).length≤n→(∀p∈ps,Zi p=true)→(r=[]∨ZaU (Zz r))→utfF n (Zc ps++r) i=if r=[] then .inl ps else .inr (i+(Zc ps).length)
 |0,ps,r,i,h,_,_=>by
  have h0:Zc ps++r=[]:=List.eq_nil_of_length_eq_zero (by omega);obtain⟨h1,h2⟩:=List.append_eq_nil_iff.1 h0;subst h2;have:ps=[]:=by cases ps with|nil=>rfl|cons p ps=>rw [Za4] at h1;exact absurd (List.append_eq_nil_iff.1 h1).1 (Ziq p)
  subst this;rfl
 |n+1,[],r,i,h,_,hr=>by
  rw [Zce,List.nil_append,utfF];by_cases h0:r=[]
  · rw [if_pos h0,if_pos h0]
  · rw [if_neg h0,if_neg h0,if_pos (hr.resolve_left h0)];rfl
 |n+1,p::ps,r,i,h,hp,hr=>by
  have sp:=hp p (List.mem_cons_self ..);have hl:=ZcH p;rw [Za4,List.append_assoc] at h⊢;rw [utfF,if_neg (fun e=>Ziq p (List.append_eq_nil_iff.1 e).1),if_neg (ZgZ sp _),ZeK sp];simp only;rw [List.drop_left,ZjL n ps r _ (by rw [List.length_append] at h;omega) (fun x hx=>hp x (List.mem_cons_of_mem _ hx)) hr];have e:((p.toNat:Nat):Int)=p:=by rw [Zai] at sp;omega
  rw [e];split
  · rfl
  · simp only [ZaT,List.length_append];congr 1;omega
theorem ZjM {l:List UInt8} {ps:List Int} (h:Good ⟨l.toArray⟩ ps):Zb0 l= .inl ps:=by
 have e:l=Zc ps++[]:=by simpa using h.1
 unfold Zb0;rw [e,ZjL _ ps [] 0 (by simp) h.2 (.inl rfl),if_pos rfl]
theorem Zwc {l:List UInt8} {n:Nat} (h:ZaX ⟨l.toArray⟩ n):Zb0 l= .inr n:=by
 obtain⟨ps,r,h1,h2,h3,h4,h5⟩:=h;have e:l=Zc ps++r:=by simpa using h1
 unfold Zb0;rw [e,ZjL _ ps r 0 (by simp) h2 (.inr h5),if_neg h4,h3,Nat.zero_add]
theorem Zeu (l:List UInt8):(∃ps,Good ⟨l.toArray⟩ ps∧Zb0 l= .inl ps)∨∃n,ZaX ⟨l.toArray⟩ n∧Zb0 l= .inr n:=by
 rcases Zmp ⟨l.toArray⟩ with⟨ps,h⟩|⟨n,h⟩
 · exact .inl ⟨ps,h,ZjM h⟩
 · exact .inr ⟨n,h,Zwc h⟩
def ZfX (big:Bool):Nat→List UInt8→Nat→ZaR
 |0,_,_=> .inl []
 |n+1,l,i=>if l=[] then .inl [] else if(Zt big l).2=0 then .inr i else ZaT [(Zt big l).1] (ZfX big n (l.drop (Zt big l).2) (i+(Zt big l).2))
def Zbh (big:Bool)(l:List UInt8):ZaR:=ZfX big l.length l 0
theorem ZjK (big:Bool):∀(n:Nat) (ps:List Int) (r:List UInt8) (i:Nat),(Zl big ps++r).length≤n→(∀p∈ps,Zi p=true)→(r=[]∨(Zt big r).2=0)→ZfX big n (Zl big ps++r) i=if r=[] then .inl ps else .inr (i+(Zl big ps).length)
 |0,ps,r,i,h,_,_=>by
  have h0:Zl big ps++r=[]:=List.eq_nil_of_length_eq_zero (by omega);obtain⟨h1,h2⟩:=List.append_eq_nil_iff.1 h0;subst h2;have:ps=[]:=by cases ps with|nil=>rfl|cons p ps=>rw [Zev] at h1;exact absurd (List.append_eq_nil_iff.1 h1).1 (Zoz big p)
  subst this;rfl
 |n+1,[],r,i,h,_,hr=>by
  rw [Zff,List.nil_append,ZfX];by_cases h0:r=[]
  · rw [if_pos h0,if_pos h0]
  · rw [if_neg h0,if_neg h0,if_pos (hr.resolve_left h0)];rfl
 |n+1,p::ps,r,i,h,hp,hr=>by
  have sp:=hp p (List.mem_cons_self ..);have hl:=Zf0 big p;rw [Zev,List.append_assoc] at h⊢;rw [ZfX,if_neg (fun e=>Zoz big p (List.append_eq_nil_iff.1 e).1),ZoC big sp,if_neg (by simp only;omega)];simp only;rw [List.drop_left,ZjK big n ps r _ (by rw [List.length_append] at h;omega) (fun x hx=>hp x (List.mem_cons_of_mem _ hx)) hr];split
  · rfl
  · simp only [ZaT,List.length_append];congr 1;omega
theorem Zoq {big:Bool} {l:List UInt8} {ps:List Int} (h:ZeD big ⟨l.toArray⟩ ps):Zbh big l= .inl ps:=by
 have e:l=Zl big ps++[]:=by simpa using h.1
 unfold Zbh;rw [e,ZjK big _ ps [] 0 (by simp) h.2 (.inl rfl),if_pos rfl]
theorem Zwa {big:Bool} {l:List UInt8} {n:Nat} (h:Zfs big ⟨l.toArray⟩ n):Zbh big l= .inr n:=by
 obtain⟨ps,r,⟨h1,h2⟩,h3,h4,h5⟩:=h;have e:l=Zl big ps++r:=by simpa using h1
 unfold Zbh;rw [e,ZjK big _ ps r 0 (by simp) h2 (.inr h5),if_neg h4,h3,Nat.zero_add]
theorem ZjJ (big:Bool)(l:List UInt8):(∃ps,ZeD big ⟨l.toArray⟩ ps∧Zbh big l= .inl ps)∨∃n,Zfs big ⟨l.toArray⟩ n∧Zbh big l= .inr n:=by
 rcases Zwj big ⟨l.toArray⟩ with⟨ps,h⟩|⟨n,h⟩
 · exact .inl ⟨ps,h,Zoq h⟩
 · exact .inr ⟨n,h,Zwa h⟩
def smallC (c:UInt8):UInt8:=if 65≤c.toNat∧c.toNat≤90 then c+32 else c
def smallL (l:List UInt8):List UInt8:=l.map smallC
def ZbR (c:Int):Int:=if c=1 then -1 else if 2≤c∧c≤20 then c - 2 else -2
def ZbS (c:Int):Int:=if c=2 then -1 else if 3≤c∧c≤7 then c - 3 else if 10≤c∧c≤15 then c - 5 else if 18≤c∧c≤23 then c - 7 else if 26≤c∧c≤29 then c - 9 else -2
def Zby (c:Int):Int:=if 1≤c∧c≤17 then c - 1 else if 19≤c∧c≤29 then c - 2 else -2
def Zc1:List UInt8:=[65,66,100,67,102,103,68,69,70,106,107,108,109,110,111,112,71,72,73,115,74,75,76,77,78,79,80,81,82,83]
def Za0 (k:Nat):Int:=if Lib.indexByte Zc1 (UInt8.ofNat k)<0 then 0 else 12593+Lib.indexByte Zc1 (UInt8.ofNat k)
def sylZ (i m f:Int):Int:=44032+(i*21+m)*28+f
def ZfS (i m f:Int):Int:=
 if i≠ -1∧m≠ -1 then sylZ i m f else if i= -1∧m≠ -1∧f=0 then 12623+m else if i≠ -1∧m= -1∧f=0 then Za0 (65+i.toNat) else if i= -1∧m= -1∧f≠0 then Za0 (97+f.toNat) else 0
def ZaE (n:Int):Int:=
 if n<32768∨ZbR (n / 1024 % 32)= -2∨ZbS (n / 32 % 32)= -2∨Zby (n % 32)= -2 then 0 else ZfS (ZbR (n / 1024 % 32)) (ZbS (n / 32 % 32)) (Zby (n % 32))
theorem Zmy (c:Int): -2≤ZbR c∧ZbR c≤18:=by unfold ZbR;(repeat' split)<;>omega
theorem ZmU (c:Int): -2≤ZbS c∧ZbS c≤20:=by unfold ZbS;(repeat' split)<;>omega
theorem Zl8 (c:Int):Zby c= -2∨(0≤Zby c∧Zby c≤27):=by unfold Zby;(repeat' split)<;>omega
theorem ZlB (k:Nat)(hk:k<256):Za0 k=0∨(12593≤Za0 k∧Za0 k≤12622):=by
 have h:(List.range 256).all (fun k=>decide (Za0 k=0∨(12593≤Za0 k∧Za0 k≤12622)))=true:=by decide+kernel
 have:=List.all_eq_true.1 h k (List.mem_range.2 hk);simpa using this
theorem Zto (n:Int):ZaE n=0∨(12593≤ZaE n∧ZaE n≤12643)∨(44032≤ZaE n∧ZaE n≤55203):=by
 have h1:=Zmy (n / 1024 % 32);have h2:=ZmU (n / 32 % 32);have h3:=Zl8 (n % 32);unfold ZaE;generalize ZbR (n / 1024 % 32)=i at*;generalize ZbS (n / 32 % 32)=m at*;generalize Zby (n % 32)=f at*;by_cases hb:n<32768∨i= -2∨m= -2∨f= -2
 · rw [if_pos hb];exact .inl rfl
 · rw [if_neg hb];have hc1:=ZlB (65+i.toNat) (by omega);have hc2:=ZlB (97+f.toNat) (by omega);unfold ZfS sylZ;generalize Za0 (65+i.toNat)=x at*;generalize Za0 (97+f.toNat)=y at*
   (repeat' split)<;>omega
theorem Ztp (n:Int)(h:ZaE n≠0):Zi (ZaE n)=true:=by
 have:=Zto n;rw [Zai];omega
def ZF (b:Int):Int:=if 64≤b∧b≤126 then b - 64 else if 161≤b∧b≤254 then b - 161+63 else -1
def Zeq (c:Int):Int:=if c<63 then 64+c else 161+c - 63
def B0:List Int:=[
 256,193,461,192,274,201,282,200,332,211,465,210]
def B1:List Int:=[
 7870]
def B2:List Int:=[
 7872,202,257,225,462,224,593,275,233,283,232,299,237,464,236,333]
def B3:List Int:=[
 243,466,242,363,250,468,249,470,472,474]
def B4:List Int:=[
 476,252]
def B5:List Int:=[
 7871]
def B6:List Int:=[
 7873,234,609]
def B7:List Int:=[
 12288,65292,12289,12290,65294,8226,65307,65306,65311,65281,65072,8230,8229,65104,65380,65106,183,65108,65109,65110,
 65111,65372,8211,65073,8212,65075,9588,65076,65103,65288,65289,65077,65078,65371,65373,65079,65080,12308,12309,65081,
 65082,12304,12305,65083,65084,12298,12299,65085,65086,12296,12297,65087,65088,12300,12301,65089,65090,12302,12303,65091,
 65092,65113,65114,65115,65116,65117,65118,8216,8217,8220,8221,12317,12318,8245,8242,65283,65286,65290,8251,167,
 12291,9675,9679,9651,9650,9678,9734,9733,9671,9670,9633,9632,9661,9660,12963,8453,8254,65507,65343,717,
 65097,65098,65101,65102,65099,65100,65119,65120,65121,65291,65293,215,247,177,8730,65308,65310,65309,8806,8807,
 8800,8734,8786,8801,65122,65123,65124,65125,65126,8764,8745,8746,8869,8736,8735,8895,13266,13265,8747,8750,
 8757,8756,9792,9794,9793,9737,8593,8595,8592,8594,8598,8599,8601,8600,8741,8739,65295]
def B8:List Int:=[
 65367,65368,65369,65370,913,914,915,916,917,918,919,920,921,922,923,924,925,926,927,928,
 929,931,932,933,934,935,936,937,945,946,947,948,949,950,951,952,953,954,955,956,
 957,958,959,960,961,963,964,965,966,967,968,969,12549,12550,12551,12552,12553,12554,12555,12556,
 12557,12558,12559,12560,12561,12562,12563,12564,12565,12566,12567,12568,12569,12570,12571,12572,12573,12574,12575,12576,
 12577,12578,12579,12580,12581,12582,12583,12584,12585,729,713,714,711,715]
def B9:List Int:=[
 19968,20057,19969,19971,20035,20061,20102,20108,20154,20799,20837,20843,20960,20992,20993,21147,21269,21313,21340,21448,
 19977,19979,19976,19978,20011,20024,20961,20037,20040,20063,20062,20110,20129,20800,20995,21242,21315,21449,21475,22303,
 22763,22805,22823,22899,23376,23377,23379,23544,23567,23586,23608,23665,24029,24037,24049,24050,24051,24062,24178,24318,
 24331,24339,25165,19985,19984,19981,20013,20016,20025,20043,23609,20104,20113,20117,20114,20116,20130,20161,20160,20163,
 20166,20167,20173,20170,20171,20164,20803,20801,20839,20845,20846,20844,20887,20982,20998,20999,21000,21243,21246,21247,
 21270,21305,21320,21319,21317,21342,21380,21451,21450,21453,22764,22825,22827,22826,22829,23380,23569,23588,23610,23663,
 24052,24187,24319,24340,24341,24515,25096,25142,25163,25166,25903,25991,26007,26020,26041,26085,26352,26376,26408,27424,
 27490,27513,27595,27604,27611,27663,27700,28779,29226,29238,29243,29255,29273,29275,29356,29579,19993]
def B10:List Int:=[
 19990,19989,19988,19992,20027,20045,20047,20046,20197,20184,20180,20181,20182,20183,20195,20196,20185,20190,20805,20804,
 20873,20874,20908,20985,20986,20984,21002,21152,21151,21253,21254,21271,21277,20191,21322,21321,21345,21344,21359,21358,
 21435,21487,21476,21491,21484,21486,21481,21480,21500,21496,21493,21483,21478,21482,21490,21489,21488,21477,21485,21499,
 22235,22234,22806,22830,22833,22900,22902,23381,23427,23612,24040,24039,24038,24066,24067,24179,24188,24321,24344,24343,
 24517,25098,25171,25172,25170,25169,26021,26086,26414,26412,26410,26411,26413,27491,27597,27665,27664,27704,27713,27712,
 27710,29359,29572,29577,29916,29926,29976,29983,29992,29993,30000,30001,30002,30003,30091,30333,30382,30399,30446,30683,
 30690,30707,31034,31166,31348,31435,19998,19999,20050,20051,20073,20121,20132,20134,20133,20223,20233,20249,20234,20245,
 20237,20240,20241,20239,20210,20214,20219,20208,20211,20221,20225,20235,20809,20807,20806,20808,20840]
def SP:List (Int×Int×List Int):=[(136,86,B0),(136,99,B1),(136,101,B2),(136,117,B3),(136,161,B4),(136,164,B5),(136,166,B6),(161,64,B7),(163,64,B8),(164,64,B9),(165,64,B10)]
def R136:List Int:=List.replicate 22 63++B0++List.replicate 1 63++B1++List.replicate 1 63++B2++B3++B4++List.replicate 1 63++B5++List.replicate 1 63++B6
def R161:List Int:=B7
def R163:List Int:=B8
def R164:List Int:=B9
def R165:List Int:=B10
def ZbH (c:UInt8):Nat:=if c.toNat<58 then c.toNat - 48 else c.toNat - 55
def ZeN (c:UInt8):Bool:=Nat.ble 48 c.toNat&&Nat.ble c.toNat 57||Nat.ble 65 c.toNat&&Nat.ble c.toNat 70
def ZcL:List UInt8→List Int→Bool
 |a::b::c::d::e::r,p::ps=>ZeN a&&ZeN b&&ZeN c&&ZeN d&&Nat.beq e.toNat 32&&decide (p=(ZbH a*4096+ZbH b*256+ZbH c*16+ZbH d:Nat))&&ZcL r ps
 |[],[]=>true
 |_,_=>false
theorem Zgw {c:UInt8} (h:ZeN c=true):ZbH c<16∧Zx (ZbH c:Int)=c:=by
 have h':(48≤c.toNat∧c.toNat≤57)∨(65≤c.toNat∧c.toNat≤70):=by simpa [ZeN,Nat.ble_eq] using h
 have hb:=c.toNat_lt;rcases h' with h'|h'
 · have e:ZbH c=c.toNat - 48:=by unfold ZbH;rw [if_pos (by omega)]
   refine⟨by omega,?_⟩;unfold Zx;rw [if_pos (by omega),e];have:(48+((c.toNat - 48:Nat):Int)).toNat=c.toNat:=by omega
   rw [this];simp
 · have e:ZbH c=c.toNat - 55:=by unfold ZbH;rw [if_neg (by omega)]
   refine⟨by omega,?_⟩;unfold Zx;rw [if_neg (by omega),e];have:(55+((c.toNat - 55:Nat):Int)).toNat=c.toNat:=by omega
   rw [this];simp
theorem Zmv:∀(l:List UInt8) (ps:List Int),ZcL l ps=true→l=ZD ps
 |a::b::c::d::e::r,p::ps,h=>by
  simp only [ZcL,Bool.and_eq_true,decide_eq_true_eq] at h;obtain⟨⟨⟨⟨⟨⟨h1,h2⟩,h3⟩,h4⟩,h5⟩,h6⟩,h7⟩:=h;have ih:=Zmv r ps h7;obtain⟨a1,a2⟩:=Zgw h1;obtain⟨b1,b2⟩:=Zgw h2;obtain⟨c1,c2⟩:=Zgw h3;obtain⟨d1,d2⟩:=Zgw h4;have e5:e=32:=by
   have:=Nat.eq_of_beq_eq_true h5;exact UInt8.toNat_inj.1 this
  have f1:p / 4096=(ZbH a:Int):=by omega
  have f2:p / 256 % 16=(ZbH b:Int):=by omega
  have f3:p / 16 % 16=(ZbH c:Int):=by omega
  have f4:p % 16=(ZbH d:Int):=by omega
  rw [ZgO,Zp,f1,f2,f3,f4,a2,b2,c2,d2,←ih,e5];rfl
 |[],[],_=>rfl
 |[],_::_,h=>by simp [ZcL] at h
 |_::_,[],h=>by simp [ZcL] at h
 |[_],_::_,h=>by simp [ZcL] at h
 |[_,_],_::_,h=>by simp [ZcL] at h
 |[_,_,_],_::_,h=>by simp [ZcL] at h
 |[_,_,_,_],_::_,h=>by simp [ZcL] at h
def Zdq (lead:Int):Int→List Int→List (Int×Int)
 |_,[]=>[]
 |c,p::ps=>(lead*256+Zeq c,p)::Zdq lead (c+1) ps
def Zd6:List (Int×Int×List Int)→List (Int×Int)
 |[]=>[]
 |t::l=>Zdq t.1 (ZF t.2.1) t.2.2++Zd6 l
def RL:List (Int×Int×List Int):=[(136,64,R136),(161,64,R161),(163,64,R163),(164,64,R164),(165,64,R165)]
def ZcM:List (Int×Int)→Int→Int
 |[],_=> -1
 |t::l,p=>if t.2=p then t.1 else ZcM l p
def ZV:List (Int×Int×List Int)→Int→Int→Int
 |[],_,_=>0
 |t::l,lead,c=>if t.1=lead∧0≤c - ZF t.2.1∧c - ZF t.2.1<t.2.2.length then t.2.2.getD (c - ZF t.2.1).toNat 0 else ZV l lead c
def Zfz:List (Int×Int×List Int)→Int→Int
 |[],_=> -1
 |t::l,p=>if fnd t.2.2 p<0 then Zfz l p else t.1*256+Zeq (ZF t.2.1+fnd t.2.2 p)
def rowL (lead:Int):List Int:=if lead=136 then R136 else if lead=161 then R161 else if lead=163 then R163 else if lead=164 then R164 else if lead=165 then R165 else []
def dq (p:Int):Int:=if p=63 then 0 else p
def rOne (lead c:Int):Int:=if c<0 then 0 else dq ((rowL lead).getD c.toNat 0)
theorem ZtH (lead c:Int)(ps:List Int)(r:List (Int×Int))(p:Int):
 ZcM (Zdq lead c ps++r) p=if fnd ps p<0 then ZcM r p else lead*256+Zeq (c+fnd ps p):=by
 induction ps generalizing c with
 |nil=>simp [Zdq,fnd]
 |cons q ps ih=>
  have hg:=ZfC ps p;have ih':=ih (c+1);by_cases h:q=p
  · have e:fnd (q::ps) p=0:=by simp [fnd,h]
    rw [e];simp [Zdq,ZcM,h]
  · have e0:ZcM (Zdq lead c (q::ps)++r) p=ZcM (Zdq lead (c+1) ps++r) p:=by simp [Zdq,ZcM,h]
    rw [e0,ih'];by_cases h2:fnd ps p= -1
    · have e:fnd (q::ps) p= -1:=by simp [fnd,h,h2]
      rw [e,h2];simp
    · have e:fnd (q::ps) p=fnd ps p+1:=by simp [fnd,h,h2]
      rw [e];have h3:¬fnd ps p<0:=by omega
      have h4:¬(fnd ps p+1<0):=by omega
      rw [if_neg h3,if_neg h4];have e:c+1+fnd ps p=c+(fnd ps p+1):=by omega
      rw [e]
theorem ZsH (l:List (Int×Int×List Int))(p:Int):Zfz l p=ZcM (Zd6 l) p:=by
 induction l with
 |nil=>rfl
 |cons t l ih=>simp only [Zfz,Zd6,ZtH,ih]
theorem Ziv:Zd6 SP=(Zd6 RL).filter fun t=>decide (t.2≠63):=by decide+kernel
def ZdB (lead:Int):Bool:=(List.range 157).all fun c=>decide (ZV SP lead c=rOne lead c)&&(decide (ZV SP lead c=0)||(decide (ZcM (Zd6 SP) (ZV SP lead c)=lead*256+Zeq c)))
theorem Zt3:ZdB 136=true∧ZdB 161=true∧ZdB 163=true∧ZdB 164=true∧ZdB 165=true:=by decide+kernel
theorem Zt1 {lead:Int} (h:ZdB lead=true){c:Int} (h0:0≤c)(h1:c<157):
 ZV SP lead c=rOne lead c∧(ZV SP lead c=0∨ZcM (Zd6 SP) (ZV SP lead c)=lead*256+Zeq c):=by
 unfold ZdB at h;have:=List.all_eq_true.1 h c.toNat (List.mem_range.2 (by omega));have e:((c.toNat:Nat):Int)=c:=by omega
 rw [e] at this;simpa using this
theorem ZtZ {l:List (Int×Int×List Int)} {lead:Int} (h:∀t∈l,t.1≠lead)(c:Int):ZV l lead c=0:=by
 induction l with
 |nil=>rfl
 |cons t l ih=>
  have h1:=h t (by simp);simp only [ZV];rw [if_neg (by intro hh;exact h1 hh.1)];exact ih fun x hx=>h x (by simp [hx])
theorem Zh8 (b:Int): -1≤ZF b∧ZF b<157:=by unfold ZF;repeat' split;all_goals omega
theorem Zvc {b:Int} (h:0≤ZF b):Zeq (ZF b)=b:=by
 unfold ZF at*;unfold Zeq;repeat' split at*;all_goals omega
theorem ZtA {lead:Int} (h:∃t∈SP,t.1=lead):lead=136∨lead=161∨lead=163∨lead=164∨lead=165:=by
 obtain⟨t,ht,rfl⟩:=h;simp [SP] at ht;rcases ht with rfl|rfl|rfl|rfl|rfl|rfl|rfl|rfl|rfl|rfl|rfl<;>simp
theorem Znc (lead b:Int)(h:0≤ZF b):
 ZV SP lead (ZF b)=rOne lead (ZF b)∧(ZV SP lead (ZF b)=0∨Zfz SP (ZV SP lead (ZF b))=lead*256+b):=by
 rw [ZsH];have hc:=Zh8 b;by_cases hl:lead=136∨lead=161∨lead=163∨lead=164∨lead=165
 · obtain⟨a1,a2,a3,a4,a5⟩:=Zt3;have hk:ZdB lead=true:=by
    rcases hl with rfl|rfl|rfl|rfl|rfl
    · exact a1
    · exact a2
    · exact a3
    · exact a4
    · exact a5
   have:=Zt1 hk h hc.2;rw [Zvc h] at this;exact this
 · have h0:ZV SP lead (ZF b)=0:=ZtZ (fun t ht e=>hl (ZtA ⟨t,ht,e⟩)) _;refine⟨?_,Or.inl h0⟩;rw [h0];simp only [not_or] at hl;obtain⟨b1,b2,b3,b4,b5⟩:=hl;unfold rOne rowL;simp [b1,b2,b3,b4,b5,dq]
theorem Zvm:SP.all (fun t=>t.2.2.all fun p=>decide (128<p∧p≤65535∧(p<55296∨57343<p)))=true:=by decide+kernel
theorem Zju {t:Int×Int×List Int} (ht:t∈SP):∀p∈t.2.2,128<p∧p≤65535∧(p<55296∨57343<p):=by
 intro p hp;have:=List.all_eq_true.1 (List.all_eq_true.1 Zvm t ht) p hp;simpa using this
theorem Zmk {l:List Int} {k:Nat} (h:k<l.length):l.getD k 0∈l:=by
 rw [List.getD_eq_getElem?_getD,List.getElem?_eq_getElem h];simp
theorem Zt0 {l:List (Int×Int×List Int)} (hl:∀t∈l,t∈SP)(lead c:Int):
 ZV l lead c=0∨(128<ZV l lead c∧ZV l lead c≤65535∧(ZV l lead c<55296∨57343<ZV l lead c)):=by
 induction l with
 |nil=>exact Or.inl rfl
 |cons t l ih=>
  simp only [ZV];split
  · rename_i hc
    have hm:t.2.2.getD (c - ZF t.2.1).toNat 0∈t.2.2:=Zmk (by omega);exact Or.inr (Zju (hl t (by simp)) _ hm)
  · exact ih fun x hx=>hl x (by simp [hx])
end Go.Proofs.YtlhllehffkoloaaGreatDoor
namespace Go.Proofs.YtlhllehffkoloaaGreatDoor
open Go Go.RowKit
theorem ZiF {x y:Int} (hy₀:0≤y)(hy:y<16)(hx₀:0≤x)(hx:x<134217728):bits .or .i32 (x*16) y=x*16+y:=
 bits_join .i32 31 (by decide) (fun n h0 h1=>by simp [IntKind.wrap,IntKind.bits,IntKind.signed];omega) 4 (x*16) y (by omega) (by omega) (by omega) hy₀ hy (by omega)
theorem Zhw (b:Int)(hb: -1000≤b∧b≤1000)(w:World):
 Calls Tryz.prog 350 #[.int .i64 b] w fun e w'=>e= .returned (.int .i64 (ZF b))∧w=w':=by
 have h0:=hb.1;have h1:=hb.2;go_enter Tryz.func350,Tryz.ntmps350
 go_wp2
 all_goals go_ret
 all_goals refine⟨ZaA ?_,rfl⟩
 all_goals unfold ZF
 all_goals repeat' split
 all_goals omega
def Hex (s:ByteArray)(ps:List Int):Prop:=s.data.toList=ZD ps∧ZhT ps
theorem Hex.size {s:ByteArray} {ps:List Int} (h:Hex s ps):s.size=5*ps.length:=by
 rw [←Zmu,←h.1];simp
theorem Hex.digit {s:ByteArray} {ps:List Int} (h:Hex s ps){k j m:Nat} (hm:m=5*k)(hk:k<ps.length)(hj:j<5)(hi:m+j<s.size):(Zp (ps.getD k 0))[j]? =some s[m+j]:=by
 subst hm;rw [←Zmt ps k j hk hj,←h.1];have hl:5*k+j<s.data.toList.length:=by simpa using hi
 rw [List.getElem?_eq_getElem hl];rfl
theorem Zf8 (d:Int)(c:UInt8)(hd:0≤d∧d<16)(hc:c=Zx d)(w:World):
 Calls Tryz.prog 253 #[.string ⟨#[48,49,50,51,52,53,54,55,56,57,65,66,67,68,69,70]⟩,.int .u8 (c.toNat:Int)] w fun e w'=>e= .returned (.int .i64 d)∧w=w':=by
 refine(Tryz.strings_IndexByte _ _ w).mono ?_;rintro e w' ⟨rfl,rfl⟩;refine⟨ZaA ?_,rfl⟩;have e1:((c.toNat:Int)).toNat.toUInt8=c:=Zae rfl;rw [e1,hc];exact ZgL hd.1 hd.2
theorem At_out (s:ByteArray)(ps:List Int)(h:Hex s ps)(k:Int)(hk:k<0∨ps.length≤k)(hs:s.size≤100000)(hkb: -100000≤k∧k≤100000)(w:World):
 Calls Tryz.prog 352 #[.string s,.int .i64 k] w fun e w'=>e= .returned (.tuple #[.int .i32 0,.bool false])∧Below w.heap.size w w':=by
 have hsz:=h.size;have hdiv:(s.size:Int) / 5=ps.length:=by omega
 by_cases h0:k<0
 · go_enter Tryz.func352,Tryz.ntmps352
   go_wp2_with fail
   go_ret2
   exact⟨rfl,Below.refl _ _⟩
 · have h1:(s.size:Int) / 5≤k:=by omega
   clear hdiv;go_enter Tryz.func352,Tryz.ntmps352
   go_wp2_with fail
   go_ret2
   exact⟨rfl,Below.refl _ _⟩
theorem At_in (s:ByteArray)(ps:List Int)(h:Hex s ps)(k:Nat)(hk:k<ps.length)(hs:s.size≤100000)(w:World):
 Calls Tryz.prog 352 #[.string s,.int .i64 k] w fun e w'=>e= .returned (.tuple #[.int .i32 (ps.getD k 0),.bool true])∧Below w.heap.size w w':=by
 have hsz:=h.size;have hp:=h.2 _ (Zd8 hk);have d0:=h.digit (j:=0) (m:=5*k) rfl hk (by omega) (by omega);have d1:=h.digit (j:=1) (m:=5*k) rfl hk (by omega) (by omega);have d2:=h.digit (j:=2) (m:=5*k) rfl hk (by omega) (by omega);have d3:=h.digit (j:=3) (m:=5*k) rfl hk (by omega) (by omega);generalize ps.getD k 0=p at*;obtain⟨q0,q1,q2,q3⟩:=ZeG hp;simp [Zp] at d0 d1 d2 d3;have D0:=fun w=>Zf8 (p / 4096) s[5*k] q0 d0.symm w;have D1:=fun w=>Zf8 (p / 256 % 16) s[5*k+1] q1 d1.symm w;have D2:=fun w=>Zf8 (p / 16 % 16) s[5*k+2] q2 d2.symm w;have D3:=fun w=>Zf8 (p % 16) s[5*k+3] q3 d3.symm w;obtain⟨q00,q01⟩:=q0;obtain⟨q10,q11⟩:=q1;obtain⟨q20,q21⟩:=q2;obtain⟨q30,q31⟩:=q3;have hge:¬(s.size:Int) / 5≤k:=by omega
 have hm':(k:Int)*5=5*(k:Int):=by omega
 have hmb:5*k+3<s.size:=by omega
 have hA1:(5*(k:Int)+1).toNat=5*k+1:=by omega
 have hA2:(5*(k:Int)+1+1).toNat=5*k+2:=by omega
 have hA3:(5*(k:Int)+1+1+1).toNat=5*k+3:=by omega
 clear d0 d1 d2 d3 h;go_enter Tryz.func352,Tryz.ntmps352
 go_wp2_with fail
 refine wp_loop_rounds 5 ?_;rw [rounds_succ];go_wp2_with (first|(go_at_call 253;first|(refine(D0 _).mono ?_;clear D0;rintro e w' ⟨rfl,rfl⟩)|(refine(D1 _).mono ?_;clear D1;rintro e w' ⟨rfl,rfl⟩)|(refine(D2 _).mono ?_;clear D2;rintro e w' ⟨rfl,rfl⟩)|(refine(D3 _).mono ?_;clear D3;rintro e w' ⟨rfl,rfl⟩)))
 rw [rounds_succ];go_wp2_with (first|(go_at_call 253;first|(refine(D0 _).mono ?_;clear D0;rintro e w' ⟨rfl,rfl⟩)|(refine(D1 _).mono ?_;clear D1;rintro e w' ⟨rfl,rfl⟩)|(refine(D2 _).mono ?_;clear D2;rintro e w' ⟨rfl,rfl⟩)|(refine(D3 _).mono ?_;clear D3;rintro e w' ⟨rfl,rfl⟩)))
 rw [rounds_succ];go_wp2_with (first|(go_at_call 253;first|(refine(D0 _).mono ?_;clear D0;rintro e w' ⟨rfl,rfl⟩)|(refine(D1 _).mono ?_;clear D1;rintro e w' ⟨rfl,rfl⟩)|(refine(D2 _).mono ?_;clear D2;rintro e w' ⟨rfl,rfl⟩)|(refine(D3 _).mono ?_;clear D3;rintro e w' ⟨rfl,rfl⟩)))
 rw [rounds_succ];go_wp2_with (first|(go_at_call 253;first|(refine(D0 _).mono ?_;clear D0;rintro e w' ⟨rfl,rfl⟩)|(refine(D1 _).mono ?_;clear D1;rintro e w' ⟨rfl,rfl⟩)|(refine(D2 _).mono ?_;clear D2;rintro e w' ⟨rfl,rfl⟩)|(refine(D3 _).mono ?_;clear D3;rintro e w' ⟨rfl,rfl⟩)))
 rw [rounds_succ];go_wp2_with fail
 go_ret2
 refine⟨?_,Below.refl _ _⟩;have e:∀x:Int,x=p→Ending.returned (.tuple #[.int .i32 x,.bool true])= .returned (.tuple #[.int .i32 p,.bool true]):=fun x hx=>by rw [hx]
 refine e _ ?_;have f1:wrap32 ((p / 4096*16+p / 256 % 16)*16)=p / 256*16:=by unfold wrap32;omega
 have f2:wrap32 ((p / 256*16+p / 16 % 16)*16)=p / 16*16:=by unfold wrap32;omega
 rw [ZiF (by omega) (by omega) (by omega) (by omega),f1,ZiF (by omega) (by omega) (by omega) (by omega),f2,ZiF (by omega) (by omega) (by omega) (by omega)];omega
def sB (n:Nat):ByteArray:=⟨(ZD (SP.getD n (0,0,[])).2.2).toArray⟩
theorem lit (n:Nat)(d:Array UInt8)(h:ZcL d.toList (SP.getD n (0,0,[])).2.2=true):ByteArray.mk d=sB n:=by
 have:=Zmv _ _ h;unfold sB;rw [←this]
def TW:List (Int×Int×Int):=[(98,202,772),(100,202,780),(163,234,772),(165,234,780)]
def Zho:Value:= .agg #[.int .i64 98,.int .i32 202,.int .i32 772,.int .i64 100,.int .i32 202,.int .i32 780,.int .i64 163,.int .i32 234,.int .i32 772,.int .i64 165,.int .i32 234,.int .i32 780]
def Zjw:Value:= .agg #[.int .i64 136,.int .i64 86,.string (sB 0),.int .i64 136,.int .i64 99,.string (sB 1),.int .i64 136,.int .i64 101,.string (sB 2),.int .i64 136,.int .i64 117,.string (sB 3),.int .i64 136,.int .i64 161,.string (sB 4),.int .i64 136,.int .i64 164,.string (sB 5),.int .i64 136,.int .i64 166,.string (sB 6),.int .i64 161,.int .i64 64,.string (sB 7),.int .i64 163,.int .i64 64,.string (sB 8),.int .i64 164,.int .i64 64,.string (sB 9),.int .i64 165,.int .i64 64,.string (sB 10)]
def Zdv (n:Nat):Int:=(SP.getD n (0,0,[])).1
def ZbC (n:Nat):Int:=(SP.getD n (0,0,[])).2.1
def ZbA (n:Nat):List Int:=(SP.getD n (0,0,[])).2.2
theorem Zq2 (w:World):Calls Tryz.prog 321 #[] w fun e w'=>e= .returned Zho∧Below w.heap.size w w':=by
 go_enter Tryz.func321,Tryz.ntmps321
 go_wp2_with fail
 refine bodyPost_ret (v:=Zho) (by simp [results,Tryz.results321,go_sem,Zho]) rfl ⟨rfl,(Below.refl _ w).alloc (Nat.le_refl _) _⟩
theorem ZtP {ops:Array Oper} {rest:List Oper} {o:Oper} {a:Act} {w:World} {Q:Exit→Act→World→Prop} (hg:o.guard=none)(t:TypeId)(parts:Array (Nat×Operand))(v:Array Value)(ho:o.op= .build t parts)
 (hf:Tryz.prog.built t (parts.map fun(i,x)=>(i,a.eval x)).toList=some v)
 (h:wpList Tryz.prog ops Q rest (a.put o.dst (.agg v)) w):wpList Tryz.prog ops Q (o::rest) a w:=
 wpList_build hg t parts ho (by rw [hf];rfl) (by rw [hf];exact h)
theorem ZqM (w:World):Calls Tryz.prog 351 #[] w fun e w'=>e= .returned Zjw∧Below w.heap.size w w':=by
 refine calls_of_wp Tryz.func351 rfl ?_;rw [lit 0]
 rotate_left
 kernel_rfl
 rw [lit 1]
 rotate_left
 kernel_rfl
 rw [lit 2]
 rotate_left
 kernel_rfl
 rw [lit 3]
 rotate_left
 kernel_rfl
 rw [lit 4]
 rotate_left
 kernel_rfl
 rw [lit 5]
 rotate_left
 kernel_rfl
 rw [lit 6]
 rotate_left
 kernel_rfl
 rw [lit 7]
 rotate_left
 kernel_rfl
 rw [lit 8]
 rotate_left
 kernel_rfl
 rw [lit 9]
 rotate_left
 kernel_rfl
 rw [lit 10]
 rotate_left
 kernel_rfl
 unfold Zjw;generalize sB 0=s0;generalize sB 1=s1;generalize sB 2=s2;generalize sB 3=s3;generalize sB 4=s4;generalize sB 5=s5;generalize sB 6=s6;generalize sB 7=s7;generalize sB 8=s8;generalize sB 9=s9;generalize sB 10=s10;simp only [Tryz.ntmps351,List.size_toArray,List.length_nil,Nat.reduceSub,Array.replicate_succ,Array.replicate_zero,List.push_toArray,List.append_toArray,List.nil_append,List.cons_append];go_wp2_with (first|(refine ZtP rfl 367 _ #[.int .i64 136,.int .i64 86,.string s0,.int .i64 136,.int .i64 99,.string s1,.int .i64 136,.int .i64 101,.string s2,.int .i64 136,.int .i64 117,.string s3,.int .i64 136,.int .i64 161,.string s4,.int .i64 136,.int .i64 164,.string s5,.int .i64 136,.int .i64 166,.string s6,.int .i64 161,.int .i64 64,.string s7,.int .i64 163,.int .i64 64,.string s8,.int .i64 164,.int .i64 64,.string s9,.int .i64 165,.int .i64 64,.string s10] rfl (by kernel_rfl) ?_)|(refine wpList_store_row rfl 367 _ _ rfl w.heap.size #[.int .i64 136,.int .i64 86,.string s0,.int .i64 136,.int .i64 99,.string s1,.int .i64 136,.int .i64 101,.string s2,.int .i64 136,.int .i64 117,.string s3,.int .i64 136,.int .i64 161,.string s4,.int .i64 136,.int .i64 164,.string s5,.int .i64 136,.int .i64 166,.string s6,.int .i64 161,.int .i64 64,.string s7,.int .i64 163,.int .i64 64,.string s8,.int .i64 164,.int .i64 64,.string s9,.int .i64 165,.int .i64 64,.string s10] rfl rfl _ _ (heap_alloc_new w _) (by kernel_rfl) (by rfl) (by simp [Value.oneCell']) ?_;rw [World.setRow_alloc_new]))
 refine bodyPost_ret (results_cell_row rfl _ _ w.heap.size _ _ _ _ rfl (heap_alloc_new w _) Tryz.underlying367 rfl (by kernel_rfl)) rfl ⟨rfl,(Below.refl _ w).alloc (Nat.le_refl _) _⟩
theorem lt11 {k:Nat} (h:k<11):k=0∨k=1∨k=2∨k=3∨k=4∨k=5∨k=6∨k=7∨k=8∨k=9∨k=10:=by omega
theorem idx11 {k:Nat} (hk:k<11)(w:World):(Instr.index 367 Zjw (.int .i64 k)).run Tryz.prog w= .ok (.agg #[.int .i64 (Zdv k),.int .i64 (ZbC k),.string (sB k)]) w:=by
 rcases lt11 hk with rfl|rfl|rfl|rfl|rfl|rfl|rfl|rfl|rfl|rfl|rfl
 all_goals kernel_rfl
theorem idx4 {k:Nat} (hk:k<4)(w:World):(Instr.index 347 Zho (.int .i64 k)).run Tryz.prog w= .ok (.agg #[.int .i64 (TW.getD k (0,0,0)).1,.int .i32 (TW.getD k (0,0,0)).2.1,.int .i32 (TW.getD k (0,0,0)).2.2]) w:=by
 have h4:k=0∨k=1∨k=2∨k=3:=by omega
 rcases h4 with rfl|rfl|rfl|rfl
 all_goals rfl
def ZqK (V:Value):Prop:=∀k:Nat,k<11→∀w,(Instr.index 367 V (.int .i64 k)).run Tryz.prog w= .ok (.agg #[.int .i64 (Zdv k),.int .i64 (ZbC k),.string (sB k)]) w
def TwosOf (V:Value):Prop:=∀k:Nat,k<4→∀w,(Instr.index 347 V (.int .i64 k)).run Tryz.prog w= .ok (.agg #[.int .i64 (TW.getD k (0,0,0)).1,.int .i32 (TW.getD k (0,0,0)).2.1,.int .i32 (TW.getD k (0,0,0)).2.2]) w
theorem ZqL (w:World):Calls Tryz.prog 351 #[] w fun e w'=>∃V,e= .returned V∧ZqK V∧Below w.heap.size w w':=
 (ZqM w).mono fun _ _ h=>⟨_,h.1,fun _ hk w=>idx11 hk w,h.2⟩
theorem Zq1 (w:World):Calls Tryz.prog 321 #[] w fun e w'=>∃V,e= .returned V∧TwosOf V∧Below w.heap.size w w':=
 (Zq2 w).mono fun _ _ h=>⟨_,h.1,fun _ hk w=>idx4 hk w,h.2⟩
theorem ZoN (s:ByteArray)(ps:List Int)(h:Hex s ps)(k:Int)(hs:s.size≤100000)(hkb: -100000≤k∧k≤100000)(w:World):
 Calls Tryz.prog 352 #[.string s,.int .i64 k] w fun e w'=>e= .returned (.tuple #[.int .i32 (if 0≤k∧k<ps.length then ps.getD k.toNat 0 else 0),.bool (decide (0≤k∧k<ps.length))])∧Below w.heap.size w w':=by
 by_cases hk:0≤k∧k<ps.length
 · have:=At_in s ps h k.toNat (by omega) hs w;have e:((k.toNat:Nat):Int)=k:=by omega
   rw [e] at this;simp only [hk,and_self,if_true,decide_true];exact this
 · have:=At_out s ps h k (by omega) hs hkb w;simp only [if_neg hk,decide_eq_false hk];exact this
theorem Cell_b (b:Int)(hb: -1000≤b∧b≤1000)(w:World):
 Calls Tryz.prog 350 #[.int .i64 b] w fun e w'=>e= .returned (.int .i64 (ZF b))∧Below w.heap.size w w':=
 (Zhw b hb w).mono fun e w' h=>⟨h.1,by rw [←h.2];exact Below.refl _ _⟩
theorem len11:∀k,k<11→(ZbA k).length≤157∧0≤Zdv k∧Zdv k≤255∧64≤ZbC k∧ZbC k≤254∧0≤ZF (ZbC k)∧ZF (ZbC k)+(ZbA k).length≤157:=by decide+kernel
theorem mem11 {k:Nat} (h:k<11):SP.getD k (0,0,[])∈SP:=by
 rw [List.getD_eq_getElem?_getD,List.getElem?_eq_getElem (by simpa [SP] using h)];simp
theorem drop11 {k:Nat} (h:k<11):SP.drop k=(Zdv k,ZbC k,ZbA k)::SP.drop (k+1):=by
 have hl:k<SP.length:=by simpa [SP] using h
 rw [List.drop_eq_getElem_cons hl];simp only [Zdv,ZbC,ZbA,List.getD_eq_getElem?_getD,List.getElem?_eq_getElem hl,Option.getD_some]
theorem hex11 {k:Nat} (h:k<11):Hex (sB k) (ZbA k)∧(sB k).size≤100000:=by
 have hx:Hex (sB k) (ZbA k):=⟨by simp [sB,ZbA],fun p hp=>by have:=Zju (mem11 h) p hp;omega⟩
 refine⟨hx,?_⟩;have:=(len11 k h).1;rw [hx.size];omega
theorem Zvl {k:Nat} (h:k<11){j:Nat} (hj:j<(ZbA k).length):128<(ZbA k).getD j 0∧(ZbA k).getD j 0≤65535:=by
 have:=Zju (mem11 h) _ (Zmk hj);exact⟨this.1,this.2.1⟩
theorem Zt5 {k:Nat} (h:k<11)(lead c:Int):ZV (SP.drop k) lead c=if Zdv k=lead∧0≤c - ZF (ZbC k)∧c - ZF (ZbC k)<(ZbA k).length then(ZbA k).getD (c - ZF (ZbC k)).toNat 0 else ZV (SP.drop (k+1)) lead c:=by
 rw [drop11 h];rfl
def ZZ (lead b:Int):Int:=if ZF b<0 then 0 else ZV SP lead (ZF b)
theorem Zt4 (lead c:Int):ZV (SP.drop 11) lead c=0:=rfl
theorem Zlb {w' w'':World} {a:Addr} {v:Value} (h:w'.cell? a=some v)(hb:Below w'.heap.size w' w''):w''.cell? a=some v:=by
 rw [hb.cell (World.block_lt_of_cell? _ _ h),h]
theorem Zlj {W w' w'':World} {a0 a1:Addr} {v0 v1:Value} (h:w'.cell? a0=some v0∧w'.cell? a1=some v1∧Below W.heap.size W w')(hb:Below w'.heap.size w' w''):
 w''.cell? a0=some v0∧w''.cell? a1=some v1∧Below W.heap.size W w'':=
 ⟨Zlb h.1 hb,Zlb h.2.1 hb,h.2.2.trans (hb.mono h.2.2.size)⟩
theorem box3 (w:World)(T:TypeId)(a b c:Value):(w.alloc (.cells #[a,b,c] T)).cell? ⟨w.heap.size,0,none⟩=some a∧(w.alloc (.cells #[a,b,c] T)).cell? ⟨w.heap.size,1,none⟩=some b∧(w.alloc (.cells #[a,b,c] T)).cell? ⟨w.heap.size,2,none⟩=some c:=by
 have hc:=fun j=>cell_of_row (w.alloc (.cells #[a,b,c] T)) w.heap.size j _ T (0,0) (heap_alloc_new w _);rw [hc 0,hc 1,hc 2];exact⟨rfl,rfl,rfl⟩
def OneRel (lead c:Int)(w0:World)(i:Value)(wr:World):Prop:=∃k:Nat,k≤11∧i= .int .i64 k∧ZV SP lead c=ZV (SP.drop k) lead c∧Below w0.heap.size w0 wr
theorem Zkq (lead b:Int)(hl:0≤lead∧lead≤255)(hb:0≤b∧b≤255)(w:World):
 Calls Tryz.prog 320 #[.int .i64 lead,.int .i64 b] w fun e w'=>e= .returned (.tuple #[.int .i32 (ZZ lead b),.bool (decide (ZZ lead b≠0))])∧Below w.heap.size w w':=by
 have hc:=Zh8 b;by_cases h0:ZF b<0
 · have e:ZZ lead b=0:=if_pos h0;rw [e];go_enter Tryz.func320,Tryz.ntmps320
   go_wp2_with (first|(go_at_call 350;refine(Zhw b (by omega) _).mono ?_;rintro e w1 ⟨rfl,rfl⟩))
   go_ret2
   exact⟨rfl,Below.refl _ _⟩
 · have e:ZZ lead b=ZV SP lead (ZF b):=if_neg h0;rw [e];have hcb:=Zhw b (by omega);generalize ZF b=c at*;clear e;go_enter Tryz.func320,Tryz.ntmps320
   go_wp2_with (first|(go_at_call 350;refine(hcb _).mono ?_;rintro e w1 ⟨rfl,rfl⟩)|(go_at_call 351;refine(ZqL _).mono ?_;rintro e w1 ⟨V,rfl,hV,hb1⟩))
   go_loopw [16] (fun i wr=>OneRel lead c w i wr) (fun i _=>11 - (intOf i).toNat)
   case atStart=>exact⟨0,by omega,rfl,rfl,hb1⟩
   case round=>
    obtain⟨k,hk,rfl,heq,hbr⟩:=hrel;by_cases hk11:k<11
    · have hstep:=Lib.hid (Zt5 hk11 lead c);obtain⟨hx,hsz⟩:=hex11 hk11;obtain⟨l1,l2,l3,l4,l5,l6,l7⟩:=len11 k hk11;have hsm:=fun j=>@Zvl k hk11 j;have hi:=hV k hk11;have hat:=fun w=>ZoN (sB k) (ZbA k) hx (c - ZF (ZbC k)) hsz ⟨by omega,by omega⟩ w;have hcell:=fun w=>Cell_b (ZbC k) ⟨by omega,by omega⟩ w;generalize Zdv k=L at*;generalize ZbC k=S at*;generalize ZbA k=ps at*;generalize sB k=s at*;generalize ZF S=d at*;clear hx;by_cases hlead:L=lead
      · subst hlead;go_wp2_with fail
        obtain⟨c0,c1,c2⟩:=box3 wr 366 (.int .i64 L) (.int .i64 S) (.string s);have hbw:=hbr.alloc hbr.size (.cells #[.int .i64 L,.int .i64 S,.string s] 366);generalize hW:wr.alloc (.cells #[.int .i64 L,.int .i64 S,.string s] 366)=W at*;clear hW hbr;have hw:IntKind.i64.wrap (c - d)=c - d:=IntWalk.i64_in _ (by omega);by_cases hin:0≤c - d∧c - d<ps.length
        · have hpos:=(hsm (c - d).toNat (by omega)).1;have hval:=Lib.hid (show ZV SP L c=ps.getD (c - d).toNat 0 by rw [heq,hstep.out,if_pos ⟨trivial,hin⟩]);simp only [hin,and_self,if_true,decide_true] at hat;clear heq hstep;go_region_held3 (fun w'=>w'.cell? ⟨wr.heap.size,1,none⟩=some (.int .i64 S)∧w'.cell? ⟨wr.heap.size,2,none⟩=some (.string s)∧Below W.heap.size W w') (first|exact⟨c1,c2,(Below.refl _ _).drew⟩|exact Zlj (by assumption) (by assumption)) (first|(go_at_call 350;refine(hcell _).mono ?_;rintro e w3 ⟨rfl,hb3⟩)|(go_at_call 352;refine(hat _).mono ?_;rintro e w3 ⟨rfl,hb3⟩))
          rename_i hS
          have hB:=hbw.trans (hS.2.2.mono hbw.size);go_wp2_with fail
          go_ret2
          refine⟨?_,hB⟩;have hne:ps.getD (c - d).toNat 0≠0:=by omega
          show Ending.returned (.tuple #[.int .i32 (ps.getD (c - d).toNat 0),.bool true])=_
          rw [hval.out,decide_eq_true hne]
        · have hval:=Lib.hid (show ZV SP L c=ZV (SP.drop (k+1)) L c by rw [heq,hstep.out,if_neg (fun h=>hin h.2)]);simp only [if_neg hin,decide_eq_false hin] at hat;clear heq hstep hsm;go_region_held3 (fun w'=>w'.cell? ⟨wr.heap.size,1,none⟩=some (.int .i64 S)∧w'.cell? ⟨wr.heap.size,2,none⟩=some (.string s)∧Below W.heap.size W w') (first|exact⟨c1,c2,(Below.refl _ _).drew⟩|exact Zlj (by assumption) (by assumption)) (first|(go_at_call 350;refine(hcell _).mono ?_;rintro e w3 ⟨rfl,hb3⟩)|(go_at_call 352;refine(hat _).mono ?_;rintro e w3 ⟨rfl,hb3⟩))
          rename_i hS
          have hB:=hbw.trans (hS.2.2.mono hbw.size);go_wp2_with fail
          go_roundw
          case rel=>exact⟨k+1,by omega,by go_num,hval.out,hB⟩
          case measure=>simp [intOf];omega
      · go_wp2_with fail
        go_roundw
        case rel=>exact⟨k+1,by omega,by go_num,by rw [heq,hstep.out,if_neg (fun h=>hlead h.1)],hbr.alloc hbr.size _⟩
        case measure=>simp [intOf];omega
    · have hk2:k=11:=by omega
      subst hk2;have hend:=Lib.hid (Zt4 lead c);clear hk11;go_wp2_with fail
      go_ret2
      rw [heq,hend.out];exact⟨rfl,hbr⟩
theorem ZtX {W:World} {b B:Nat} {p q:Int} {k:IntKind} (hb:b<B)(c1:W.cell? ⟨b,1,none⟩=some (.int k p))(c2:W.cell? ⟨b,2,none⟩=some (.int k q)):Zar W B k (some ⟨b,1,none⟩) [p,q]:=by
 refine⟨by simp,fun _=>⟨_,rfl,hb,fun j u hu=> ?_⟩⟩
 match j,hu with
 |0,hu=>simp at hu;rw [←hu];exact c1
 |1,hu=>simp at hu;rw [←hu];exact c2
 |j+2,hu=>simp at hu
def ZbY:List (Int×Int×Int)→Int→Int→List Int
 |[],_,_=>[]
 |t::l,lead,b=>if lead=136∧b=t.1 then [t.2.1,t.2.2] else ZbY l lead b
def ZbG (lead b:Int):List Int:=ZbY TW lead b
theorem Zv0 {lead b:Int} (h:lead≠136):ZbG lead b=[]:=by
 simp [ZbG,TW,ZbY,h]
def tw1 (k:Nat):Int:=(TW.getD k (0,0,0)).1
def tw2 (k:Nat):Int:=(TW.getD k (0,0,0)).2.1
def tw3 (k:Nat):Int:=(TW.getD k (0,0,0)).2.2
theorem ZvZ:∀k,k<4→(98≤tw1 k∧tw1 k≤165)∧(202≤tw2 k∧tw2 k≤234)∧(772≤tw3 k∧tw3 k≤780):=by decide
theorem Zv2 {k:Nat} (h:k<4)(lead b:Int):ZbY (TW.drop k) lead b=if lead=136∧b=tw1 k then [tw2 k,tw3 k] else ZbY (TW.drop (k+1)) lead b:=by
 have hl:k<TW.length:=by simpa [TW] using h
 rw [List.drop_eq_getElem_cons hl];simp only [ZbY,tw1,tw2,tw3,List.getD_eq_getElem?_getD,List.getElem?_eq_getElem hl,Option.getD_some]
def TwoRel (lead b:Int)(w0:World)(i:Value)(wr:World):Prop:=∃k:Nat,k≤4∧i= .int .i64 k∧ZbG lead b=ZbY (TW.drop k) lead b∧Below w0.heap.size w0 wr
def ZaJ (lead b:Int):List Int:=if ZZ lead b≠0 then [ZZ lead b] else ZbG lead b
theorem Znb (lead b:Int):ZZ lead b=0∨(128<ZZ lead b∧ZZ lead b≤65535∧(ZZ lead b<55296∨57343<ZZ lead b)):=by
 unfold ZZ;split
 · exact .inl rfl
 · exact Zt0 (fun _ h=>h) lead _
theorem Zt2 {lead b:Int} (h:ZZ lead b≠0):Zi (ZZ lead b)=true:=by
 have:=Znb lead b;rw [Zai];omega
theorem ZqE (lead b:Int)(hl:0≤lead∧lead≤255)(hb:0≤b∧b≤255)(h1:ZZ lead b≠0)(w:World):
 Calls Tryz.prog 274 #[.int .u8 lead,.int .u8 b] w fun e w'=>e= .returned (.tuple #[.string ⟨(Lib.encodeRune (ZZ lead b)).toArray⟩,.bool true])∧Below w.heap.size w w':=by
 have hone:=fun w=>Zkq lead b hl hb w;have hsc:=Zt2 h1;rw [decide_eq_true h1] at hone;generalize ZZ lead b=p at*;clear h1;go_enter Tryz.func274,Tryz.ntmps274
 go_wp2_with (first|(go_at_call 320;refine(hone _).mono ?_;rintro e w1 ⟨rfl,hb1⟩)|(go_at_call 275;refine(Zgo p hsc _ _).mono ?_;rintro e w2 ⟨rfl,hb2⟩))
 go_ret2
 exact⟨rfl,hb1.trans ((Zd hb2).mono hb1.size)⟩
theorem ZqD (lead b:Int)(hl:0≤lead∧lead≤255)(hb:0≤b∧b≤255)(h1:ZZ lead b=0)(w:World):
 Calls Tryz.prog 274 #[.int .u8 lead,.int .u8 b] w fun e w'=>e= .returned (.tuple #[.string ⟨(Zc (ZbG lead b)).toArray⟩,.bool (decide (ZbG lead b≠[]))])∧Below w.heap.size w w':=by
 have hone:=fun w=>Zkq lead b hl hb w;rw [h1] at hone;go_enter Tryz.func274,Tryz.ntmps274
 go_wp2_with (first|(go_at_call 320;refine(hone _).mono ?_;rintro e w1 ⟨rfl,hb1⟩)|(go_at_call 321;refine(Zq1 _).mono ?_;rintro e w2 ⟨V,rfl,hV,hb2⟩))
 clear hone;go_loopw [25] (fun i wr=>TwoRel lead b w i wr) (fun i _=>4 - (intOf i).toNat)
 case atStart=>exact⟨0,by omega,rfl,rfl,hb1.trans (hb2.mono hb1.size)⟩
 case round=>
  obtain⟨k,hk,rfl,heq,hbr⟩:=hrel;by_cases hk4:k<4
  · have hstep:=Lib.hid (Zv2 hk4 lead b);obtain⟨⟨f1,f2⟩,⟨f3,f4⟩,f5,f6⟩:=ZvZ k hk4;have hi:=hV k hk4;change∀w,(Instr.index 347 V (.int .i64 k)).run Tryz.prog w= .ok (.agg #[.int .i64 (tw1 k),.int .i32 (tw2 k),.int .i32 (tw3 k)]) w at hi
    have Heq:=Lib.hid heq;clear heq;generalize tw1 k=S at*;generalize tw2 k=p at*;generalize tw3 k=q at*;have hsc:∀x∈[p,q],Zi x=true:=by
     intro x hx;rw [Zai];simp at hx;rcases hx with rfl|rfl<;>omega
    have hbA:=hbr.alloc hbr.size (.cells #[.int .i64 S,.int .i32 p,.int .i32 q] 346);by_cases h136:lead=136
    · by_cases hS:b=S
      · have hval:=Lib.hid (show ZbG lead b=[p,q] by rw [Heq.out,hstep.out,if_pos ⟨h136,hS⟩]);clear hstep Heq;subst h136 hS;go_wp2_with (first|(go_at_call 275;refine(ZkR _ _ [p,q] _ (ZtX (Nat.lt_succ_self _) (box3 _ _ _ _ _).2.1 (box3 _ _ _ _ _).2.2) (by simp) hsc (by simp)).mono ?_;rintro e w3 ⟨rfl,hb3⟩))
        go_ret2
        rw [hval.out];exact⟨rfl,hbA.trans (hb3.mono hbA.size)⟩
      · have hval:=Lib.hid (show ZbG lead b=ZbY (TW.drop (k+1)) lead b by rw [Heq.out,hstep.out,if_neg (fun h=>hS h.2)]);clear hstep Heq;subst h136;go_wp2_with fail
        go_roundw
        case rel=>exact⟨k+1,by omega,by go_num,hval.out,hbA⟩
        case measure=>simp [intOf];omega
    · have hval:=Lib.hid (show ZbG lead b=ZbY (TW.drop (k+1)) lead b by rw [Heq.out,hstep.out,if_neg (fun h=>h136 h.1)]);clear hstep Heq;go_wp2_with fail
      go_roundw
      case rel=>exact⟨k+1,by omega,by go_num,hval.out,hbA⟩
      case measure=>simp [intOf];omega
  · have hk2:k=4:=by omega
    subst hk2;have hend:=Lib.hid (show ZbG lead b=[] from heq);clear hk4 heq;go_wp2_with fail
    go_ret2
    rw [hend.out];exact⟨rfl,hbr⟩
theorem ZqC (lead b:Int)(hl:0≤lead∧lead≤255)(hb:0≤b∧b≤255)(w:World):
 Calls Tryz.prog 274 #[.int .u8 lead,.int .u8 b] w fun e w'=>e= .returned (.tuple #[.string ⟨(Zc (ZaJ lead b)).toArray⟩,.bool (decide (ZaJ lead b≠[]))])∧Below w.heap.size w w':=by
 by_cases h1:ZZ lead b=0
 · have e:ZaJ lead b=ZbG lead b:=by unfold ZaJ;rw [if_neg (by simp [h1])]
   rw [e];exact ZqD lead b hl hb h1 w
 · have e:ZaJ lead b=[ZZ lead b]:=by unfold ZaJ;rw [if_pos h1]
   have e2:Zc [ZZ lead b]=Lib.encodeRune (ZZ lead b):=by simp [Zc]
   rw [e,e2];exact ZqE lead b hl hb h1 w
end Go.Proofs.YtlhllehffkoloaaGreatDoor
