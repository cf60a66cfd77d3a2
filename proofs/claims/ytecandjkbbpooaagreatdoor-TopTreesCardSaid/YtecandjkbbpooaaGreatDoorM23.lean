/- Lemmas for a statement on the tops; conditions: as each says. -/
import Derived.Lib.Bytealg
import Derived.Deep.RegionHeld3
import Derived.Maps.OwnOps
import Derived.Maps.OwnSet
import Derived.Maps.Views
import Derived.DeepKeys4
import Derived.Test.YtecandjkbbpooaaGreatDoorM3
import Derived.Test.YtecandjkbbpooaaGreatDoorM22
set_option linter.unusedVariables false
set_option linter.unusedSimpArgs false
set_option maxRecDepth 100000
set_option maxHeartbeats 4000000
namespace Go.Proofs.YtecandjkbbpooaaGreatDoor
open Go Go.RowKit
theorem Zkk (b:Bool)(k:Nat):∀N,k<cnt b N→∃n,n<N∧Za0 n=b∧cnt b n=k
 |0,h=>absurd h (Nat.not_lt_zero _)
 |N+1,h=>by
  have hs:cnt b (N+1)=cnt b N+(if Za0 N=b then 1 else 0):=rfl;by_cases hk:k<cnt b N
  · obtain⟨n,h1,h2,h3⟩:=Zkk b k N hk;exact⟨n,by omega,h2,h3⟩
  · by_cases he:Za0 N=b
    · rw [if_pos he] at hs;exact⟨N,by omega,he,by omega⟩
    · rw [if_neg he] at hs;omega
theorem kth_ex (k:Nat)(b:Bool):∃p,ZgZ k b p:=by
 by_cases h:k<cnt b 11172
 · obtain⟨n,h1,h2,h3⟩:=Zkk b k _ h;exact⟨_,.inl ⟨n,h1,h2,h3,rfl⟩⟩
 · exact⟨0,.inr ⟨by omega,rfl⟩⟩
theorem ZhW (k:Int)(b:Bool):∃p,KthZ k b p:=by
 by_cases h:k<0
 · exact⟨0,.inl ⟨h,rfl⟩⟩
 · obtain⟨p,hp⟩:=kth_ex k.toNat b;exact⟨p,.inr ⟨by omega,hp⟩⟩
theorem row_ex (lead b:Int):∃p,Zg8 lead b p:=by
 unfold Zg8;by_cases h1:b=255
 · exact⟨0,by rw [if_pos h1]⟩
 · by_cases h2:176≤lead∧lead≤200
   · simp only [if_neg h1,if_pos h2];exact ZhW _ _
   · exact⟨_,by rw [if_neg h1,if_neg h2]⟩
theorem Ztj (lead b:Int):∃p,Zjz lead b p:=by
 unfold Zjz;by_cases h1:secZ b<0∨lead<129∨254<lead
 · exact⟨0,by rw [if_pos h1]⟩
 · by_cases h2:lead<161
   · simp only [if_neg h1,if_pos h2];exact ZhW _ _
   · by_cases h3:b<161
     · simp only [if_neg h1,if_neg h2,if_pos h3];exact ZhW _ _
     · simp only [if_neg h1,if_neg h2,if_neg h3];exact row_ex _ _
theorem Zlb:Za0 11171=false:=by decide+kernel
theorem ZpW:cnt false 11171=8821:=by
 have h:cnt false 11172=cnt false 11171+(if Za0 11171=false then 1 else 0):=rfl;rw [ZpX,Zlb] at h;simp at h;omega
end Go.Proofs.YtecandjkbbpooaaGreatDoor
namespace Go.Proofs.YtecandjkbbpooaaGreatDoor
open Go
abbrev ZaB:=List Int⊕Nat
def ZaQ (p:List Int):ZaB→ZaB
 | .inl l=> .inl (p++l)
 | .inr n=> .inr n
theorem Zp7 (r:ZaB):ZaQ [] r=r:=by cases r<;>rfl
theorem Zks (a b:List Int)(r:ZaB):ZaQ a (ZaQ b r)=ZaQ (a++b) r:=by cases r<;>simp [ZaQ]
def Zy (f:UInt8→UInt8→List Int):List UInt8→Nat→ZaB
 |[],_=> .inl []
 |[a],i=>if a.toNat<128 then .inl [(a.toNat:Int)] else .inr i
 |a::b::q,i=>if a.toNat<128 then ZaQ [(a.toNat:Int)] (Zy f (b::q) (i+1)) else if f a b=[] then .inr i else ZaQ (f a b) (Zy f q (i+2))
section
variable (f:UInt8→UInt8→List Int)
theorem Zp9 (l:List UInt8)(k:Nat)(h:k<l.length)(h1:l[k].toNat<128):Zy f (l.drop k) k=ZaQ [(l[k].toNat:Int)] (Zy f (l.drop (k+1)) (k+1)):=by
 rw [List.drop_eq_getElem_cons h];cases hq:l.drop (k+1) with
 |nil=>simp [Zy,h1,ZaQ]
 |cons b q=>simp [Zy,h1]
theorem Zqb (l:List UInt8)(k:Nat)(h:k<l.length)(h1:¬l[k].toNat<128)(h2:l.length=k+1):Zy f (l.drop k) k= .inr k:=by
 rw [List.drop_eq_getElem_cons h,List.drop_of_length_le (by omega),Zy,if_neg h1]
theorem Zqa (l:List UInt8)(k:Nat)(h:k+1<l.length)(h1:¬l[k].toNat<128)(h2:f l[k] l[k+1]=[]):Zy f (l.drop k) k= .inr k:=by
 rw [List.drop_eq_getElem_cons (by omega),List.drop_eq_getElem_cons h,Zy,if_neg h1,if_pos h2]
theorem Zqc (l:List UInt8)(k:Nat)(h:k+1<l.length)(h1:¬l[k].toNat<128)(h2:f l[k] l[k+1]≠[]):Zy f (l.drop k) k=ZaQ (f l[k] l[k+1]) (Zy f (l.drop (k+2)) (k+2)):=by
 rw [List.drop_eq_getElem_cons (by omega),List.drop_eq_getElem_cons h,Zy,if_neg h1,if_neg h2]
theorem Zp8 (l:List UInt8)(k:Nat)(h:l.length≤k):Zy f (l.drop k) k= .inl []:=by
 rw [List.drop_of_length_le h,Zy]
theorem ZhA:∀(l:List UInt8) (i n:Nat),Zy f l i= .inr n→i≤n∧n<i+l.length
 |[],_,n,h=>by rw [Zy] at h;cases h
 |[a],i,n,h=>by
  rw [Zy] at h;split at h
  · cases h
  · injection h with h;subst h;simp
 |a::b::q,i,n,h=>by
  rw [Zy] at h;split at h
  · have ih:=ZhA (b::q) (i+1);generalize Zy f (b::q) (i+1)=r at*;cases r with
    |inl _=>cases h
    |inr m=>injection h with h;subst h;have:=ih m rfl;simp only [List.length_cons] at*;omega
  · split at h
    · injection h with h;subst h;simp
    · have ih:=ZhA q (i+2);generalize Zy f q (i+2)=r at*;cases r with
      |inl _=>cases h
      |inr m=>injection h with h;subst h;have:=ih m rfl;simp only [List.length_cons] at*;omega
end
def utfF:Nat→List UInt8→Nat→ZaB
 |0,_,_=> .inl []
 |n+1,l,i=>if l=[] then .inl [] else if ZbC (ZA l) then .inr i else ZaQ [((ZA l).1:Int)] (utfF n (l.drop (ZA l).2) (i+(ZA l).2))
def Zcl (l:List UInt8):ZaB:=utfF l.length l 0
theorem ZiJ:∀(n:Nat) (ps:List Int) (r:List UInt8) (i:Nat),(Zc ps++r).length≤n→(∀p∈ps,Zv p=true)→(r=[]∨ZbC (ZA r))→utfF n (Zc ps++r) i=if r=[] then .inl ps else .inr (i+(Zc ps).length)
 |0,ps,r,i,h,_,_=>by
  have h0:Zc ps++r=[]:=List.eq_nil_of_length_eq_zero (by omega);obtain⟨h1,h2⟩:=List.append_eq_nil_iff.1 h0;subst h2;have:ps=[]:=by cases ps with|nil=>rfl|cons p ps=>rw [Za2] at h1;exact absurd (List.append_eq_nil_iff.1 h1).1 (ZhF p)
  subst this;rfl
 |n+1,[],r,i,h,_,hr=>by
  rw [Zca,List.nil_append,utfF];by_cases h0:r=[]
  · rw [if_pos h0,if_pos h0]
  · rw [if_neg h0,if_neg h0,if_pos (hr.resolve_left h0)];rfl
 |n+1,p::ps,r,i,h,hp,hr=>by
  have sp:=hp p (List.mem_cons_self ..);have hl:=ZcS p;rw [Za2,List.append_assoc] at h⊢;rw [utfF,if_neg (fun e=>ZhF p (List.append_eq_nil_iff.1 e).1),if_neg (Zh6 sp _),Zen sp];simp only;rw [List.drop_left,ZiJ n ps r _ (by rw [List.length_append] at h;omega) (fun x hx=>hp x (List.mem_cons_of_mem _ hx)) hr];have e:((p.toNat:Nat):Int)=p:=by rw [ZaN] at sp;omega
  rw [e];split
  · rfl
  · simp only [ZaQ,List.length_append];congr 1;omega
theorem Zua {l:List UInt8} {ps:List Int} (h:Good ⟨l.toArray⟩ ps):Zcl l= .inl ps:=by
 have e:l=Zc ps++[]:=by simpa using h.1
 unfold Zcl;rw [e,ZiJ _ ps [] 0 (by simp) h.2 (.inl rfl),if_pos rfl]
theorem Zt9 {l:List UInt8} {n:Nat} (h:Za3 ⟨l.toArray⟩ n):Zcl l= .inr n:=by
 obtain⟨ps,r,h1,h2,h3,h4,h5⟩:=h;have e:l=Zc ps++r:=by simpa using h1
 unfold Zcl;rw [e,ZiJ _ ps r 0 (by simp) h2 (.inr h5),if_neg h4,h3,Nat.zero_add]
theorem Zdx (l:List UInt8):(∃ps,Good ⟨l.toArray⟩ ps∧Zcl l= .inl ps)∨∃n,Za3 ⟨l.toArray⟩ n∧Zcl l= .inr n:=by
 rcases Zq7 ⟨l.toArray⟩ with⟨ps,h⟩|⟨n,h⟩
 · exact .inl ⟨ps,h,Zua h⟩
 · exact .inr ⟨n,h,Zt9 h⟩
def Zfw (big:Bool):Nat→List UInt8→Nat→ZaB
 |0,_,_=> .inl []
 |n+1,l,i=>if l=[] then .inl [] else if(Zu big l).2=0 then .inr i else ZaQ [(Zu big l).1] (Zfw big n (l.drop (Zu big l).2) (i+(Zu big l).2))
def ZbY (big:Bool)(l:List UInt8):ZaB:=Zfw big l.length l 0
theorem ZiI (big:Bool):∀(n:Nat) (ps:List Int) (r:List UInt8) (i:Nat),(Zr big ps++r).length≤n→(∀p∈ps,Zv p=true)→(r=[]∨(Zu big r).2=0)→Zfw big n (Zr big ps++r) i=if r=[] then .inl ps else .inr (i+(Zr big ps).length)
 |0,ps,r,i,h,_,_=>by
  have h0:Zr big ps++r=[]:=List.eq_nil_of_length_eq_zero (by omega);obtain⟨h1,h2⟩:=List.append_eq_nil_iff.1 h0;subst h2;have:ps=[]:=by cases ps with|nil=>rfl|cons p ps=>rw [Zdz] at h1;exact absurd (List.append_eq_nil_iff.1 h1).1 (Zm7 big p)
  subst this;rfl
 |n+1,[],r,i,h,_,hr=>by
  rw [ZeP,List.nil_append,Zfw];by_cases h0:r=[]
  · rw [if_pos h0,if_pos h0]
  · rw [if_neg h0,if_neg h0,if_pos (hr.resolve_left h0)];rfl
 |n+1,p::ps,r,i,h,hp,hr=>by
  have sp:=hp p (List.mem_cons_self ..);have hl:=Zfz big p;rw [Zdz,List.append_assoc] at h⊢;rw [Zfw,if_neg (fun e=>Zm7 big p (List.append_eq_nil_iff.1 e).1),Znd big sp,if_neg (by simp only;omega)];simp only;rw [List.drop_left,ZiI big n ps r _ (by rw [List.length_append] at h;omega) (fun x hx=>hp x (List.mem_cons_of_mem _ hx)) hr];split
  · rfl
  · simp only [ZaQ,List.length_append];congr 1;omega
theorem ZmZ {big:Bool} {l:List UInt8} {ps:List Int} (h:Zee big ⟨l.toArray⟩ ps):ZbY big l= .inl ps:=by
 have e:l=Zr big ps++[]:=by simpa using h.1
 unfold ZbY;rw [e,ZiI big _ ps [] 0 (by simp) h.2 (.inl rfl),if_pos rfl]
theorem Zt7 {big:Bool} {l:List UInt8} {n:Nat} (h:Ze3 big ⟨l.toArray⟩ n):ZbY big l= .inr n:=by
 obtain⟨ps,r,⟨h1,h2⟩,h3,h4,h5⟩:=h;have e:l=Zr big ps++r:=by simpa using h1
 unfold ZbY;rw [e,ZiI big _ ps r 0 (by simp) h2 (.inr h5),if_neg h4,h3,Nat.zero_add]
theorem ZmY (big:Bool)(l:List UInt8):(∃ps,Zee big ⟨l.toArray⟩ ps∧ZbY big l= .inl ps)∨∃n,Ze3 big ⟨l.toArray⟩ n∧ZbY big l= .inr n:=by
 rcases Zue big ⟨l.toArray⟩ with⟨ps,h⟩|⟨n,h⟩
 · exact .inl ⟨ps,h,ZmZ h⟩
 · exact .inr ⟨n,h,Zt7 h⟩
def smallC (c:UInt8):UInt8:=if 65≤c.toNat∧c.toNat≤90 then c+32 else c
def smallL (l:List UInt8):List UInt8:=l.map smallC
def iniZ (c:Int):Int:=if c=1 then -1 else if 2≤c∧c≤20 then c - 2 else -2
def medZ (c:Int):Int:=if c=2 then -1 else if 3≤c∧c≤7 then c - 3 else if 10≤c∧c≤15 then c - 5 else if 18≤c∧c≤23 then c - 7 else if 26≤c∧c≤29 then c - 9 else -2
def finZ (c:Int):Int:=if 1≤c∧c≤17 then c - 1 else if 19≤c∧c≤29 then c - 2 else -2
def ZjQ:List UInt8:=[65,66,100,67,102,103,68,69,70,106,107,108,109,110,111,112,71,72,73,115,74,75,76,77,78,79,80,81,82,83]
def consZ (k:Nat):Int:=if Lib.indexByte ZjQ (UInt8.ofNat k)<0 then 0 else 12593+Lib.indexByte ZjQ (UInt8.ofNat k)
def sylZ (i m f:Int):Int:=44032+(i*21+m)*28+f
def signZ (i m f:Int):Int:=
 if i≠ -1∧m≠ -1 then sylZ i m f else if i= -1∧m≠ -1∧f=0 then 12623+m else if i≠ -1∧m= -1∧f=0 then consZ (65+i.toNat) else if i= -1∧m= -1∧f≠0 then consZ (97+f.toNat) else 0
def johZ (n:Int):Int:=
 if n<32768∨iniZ (n / 1024 % 32)= -2∨medZ (n / 32 % 32)= -2∨finZ (n % 32)= -2 then 0 else signZ (iniZ (n / 1024 % 32)) (medZ (n / 32 % 32)) (finZ (n % 32))
def Zai (b:Int):Int:=if 64≤b∧b≤126 then b - 64 else if 161≤b∧b≤254 then b - 161+63 else -1
def Zd2 (c:Int):Int:=if c<63 then 64+c else 161+c - 63
def B0:List Int:=[
 256,193,461,192,274,201,282,200,332,211,465,210]
def B1:List Int:=[
 7870]
def B2:List Int:=[
 7872,202,257,225,462,224,593,275,233,283,232,299,237,464,236,333]
def B3:List Int:=[
 243,466,242,363,250,468,249,470,472,474]
def B4:List Int:=[
 476,252]
def B5:List Int:=[
 7871]
def B6:List Int:=[
 7873,234,609]
def B7:List Int:=[
 12288,65292,12289,12290,65294,8226,65307,65306,65311,65281,65072,8230,8229,65104,65380,65106,183,65108,65109,65110,
 65111,65372,8211,65073,8212,65075,9588,65076,65103,65288,65289,65077,65078,65371,65373,65079,65080,12308,12309,65081,
 65082,12304,12305,65083,65084,12298,12299,65085,65086,12296,12297,65087,65088,12300,12301,65089,65090,12302,12303,65091,
 65092,65113,65114,65115,65116,65117,65118,8216,8217,8220,8221,12317,12318,8245,8242,65283,65286,65290,8251,167,
 12291,9675,9679,9651,9650,9678,9734,9733,9671,9670,9633,9632,9661,9660,12963,8453,8254,65507,65343,717,
 65097,65098,65101,65102,65099,65100,65119,65120,65121,65291,65293,215,247,177,8730,65308,65310,65309,8806,8807,
 8800,8734,8786,8801,65122,65123,65124,65125,65126,8764,8745,8746,8869,8736,8735,8895,13266,13265,8747,8750,
 8757,8756,9792,9794,9793,9737,8593,8595,8592,8594,8598,8599,8601,8600,8741,8739,65295]
def B8:List Int:=[
 65367,65368,65369,65370,913,914,915,916,917,918,919,920,921,922,923,924,925,926,927,928,
 929,931,932,933,934,935,936,937,945,946,947,948,949,950,951,952,953,954,955,956,
 957,958,959,960,961,963,964,965,966,967,968,969,12549,12550,12551,12552,12553,12554,12555,12556,
 12557,12558,12559,12560,12561,12562,12563,12564,12565,12566,12567,12568,12569,12570,12571,12572,12573,12574,12575,12576,
 12577,12578,12579,12580,12581,12582,12583,12584,12585,729,713,714,711,715]
def B9:List Int:=[
 19968,20057,19969,19971,20035,20061,20102,20108,20154,20799,20837,20843,20960,20992,20993,21147,21269,21313,21340,21448,
 19977,19979,19976,19978,20011,20024,20961,20037,20040,20063,20062,20110,20129,20800,20995,21242,21315,21449,21475,22303,
 22763,22805,22823,22899,23376,23377,23379,23544,23567,23586,23608,23665,24029,24037,24049,24050,24051,24062,24178,24318,
 24331,24339,25165,19985,19984,19981,20013,20016,20025,20043,23609,20104,20113,20117,20114,20116,20130,20161,20160,20163,
 20166,20167,20173,20170,20171,20164,20803,20801,20839,20845,20846,20844,20887,20982,20998,20999,21000,21243,21246,21247,
 21270,21305,21320,21319,21317,21342,21380,21451,21450,21453,22764,22825,22827,22826,22829,23380,23569,23588,23610,23663,
 24052,24187,24319,24340,24341,24515,25096,25142,25163,25166,25903,25991,26007,26020,26041,26085,26352,26376,26408,27424,
 27490,27513,27595,27604,27611,27663,27700,28779,29226,29238,29243,29255,29273,29275,29356,29579,19993]
def B10:List Int:=[
 19990,19989,19988,19992,20027,20045,20047,20046,20197,20184,20180,20181,20182,20183,20195,20196,20185,20190,20805,20804,
 20873,20874,20908,20985,20986,20984,21002,21152,21151,21253,21254,21271,21277,20191,21322,21321,21345,21344,21359,21358,
 21435,21487,21476,21491,21484,21486,21481,21480,21500,21496,21493,21483,21478,21482,21490,21489,21488,21477,21485,21499,
 22235,22234,22806,22830,22833,22900,22902,23381,23427,23612,24040,24039,24038,24066,24067,24179,24188,24321,24344,24343,
 24517,25098,25171,25172,25170,25169,26021,26086,26414,26412,26410,26411,26413,27491,27597,27665,27664,27704,27713,27712,
 27710,29359,29572,29577,29916,29926,29976,29983,29992,29993,30000,30001,30002,30003,30091,30333,30382,30399,30446,30683,
 30690,30707,31034,31166,31348,31435,19998,19999,20050,20051,20073,20121,20132,20134,20133,20223,20233,20249,20234,20245,
 20237,20240,20241,20239,20210,20214,20219,20208,20211,20221,20225,20235,20809,20807,20806,20808,20840]
def SP:List (Int×Int×List Int):=[(136,86,B0),(136,99,B1),(136,101,B2),(136,117,B3),(136,161,B4),(136,164,B5),(136,166,B6),(161,64,B7),(163,64,B8),(164,64,B9),(165,64,B10)]
def R136:List Int:=List.replicate 22 63++B0++List.replicate 1 63++B1++List.replicate 1 63++B2++B3++B4++List.replicate 1 63++B5++List.replicate 1 63++B6
def R161:List Int:=B7
def R163:List Int:=B8
def R164:List Int:=B9
def R165:List Int:=B10
def ZbJ (c:UInt8):Nat:=if c.toNat<58 then c.toNat - 48 else c.toNat - 55
def Zep (c:UInt8):Bool:=Nat.ble 48 c.toNat&&Nat.ble c.toNat 57||Nat.ble 65 c.toNat&&Nat.ble c.toNat 70
def Zcz:List UInt8→List Int→Bool
 |a::b::c::d::e::r,p::ps=>Zep a&&Zep b&&Zep c&&Zep d&&Nat.beq e.toNat 32&&decide (p=(ZbJ a*4096+ZbJ b*256+ZbJ c*16+ZbJ d:Nat))&&Zcz r ps
 |[],[]=>true
 |_,_=>false
theorem ZfZ {c:UInt8} (h:Zep c=true):ZbJ c<16∧ZdR (ZbJ c:Int)=c:=by
 have h':(48≤c.toNat∧c.toNat≤57)∨(65≤c.toNat∧c.toNat≤70):=by simpa [Zep,Nat.ble_eq] using h
 have hb:=c.toNat_lt;rcases h' with h'|h'
 · have e:ZbJ c=c.toNat - 48:=by unfold ZbJ;rw [if_pos (by omega)]
   refine⟨by omega,?_⟩;unfold ZdR;rw [if_pos (by omega),e];have:(48+((c.toNat - 48:Nat):Int)).toNat=c.toNat:=by omega
   rw [this];simp
 · have e:ZbJ c=c.toNat - 55:=by unfold ZbJ;rw [if_neg (by omega)]
   refine⟨by omega,?_⟩;unfold ZdR;rw [if_neg (by omega),e];have:(55+((c.toNat - 55:Nat):Int)).toNat=c.toNat:=by omega
   rw [this];simp
theorem Zk7:∀(l:List UInt8) (ps:List Int),Zcz l ps=true→l=hexL ps
 |a::b::c::d::e::r,p::ps,h=>by
  simp only [Zcz,Bool.and_eq_true,decide_eq_true_eq] at h;obtain⟨⟨⟨⟨⟨⟨h1,h2⟩,h3⟩,h4⟩,h5⟩,h6⟩,h7⟩:=h;have ih:=Zk7 r ps h7;obtain⟨a1,a2⟩:=ZfZ h1;obtain⟨b1,b2⟩:=ZfZ h2;obtain⟨c1,c2⟩:=ZfZ h3;obtain⟨d1,d2⟩:=ZfZ h4;have e5:e=32:=by
   have:=Nat.eq_of_beq_eq_true h5;exact UInt8.toNat_inj.1 this
  have f1:p / 4096=(ZbJ a:Int):=by omega
  have f2:p / 256 % 16=(ZbJ b:Int):=by omega
  have f3:p / 16 % 16=(ZbJ c:Int):=by omega
  have f4:p % 16=(ZbJ d:Int):=by omega
  rw [Zrh,Zhs,f1,f2,f3,f4,a2,b2,c2,d2,←ih,e5];rfl
 |[],[],_=>rfl
 |[],_::_,h=>by simp [Zcz] at h
 |_::_,[],h=>by simp [Zcz] at h
 |[_],_::_,h=>by simp [Zcz] at h
 |[_,_],_::_,h=>by simp [Zcz] at h
 |[_,_,_],_::_,h=>by simp [Zcz] at h
 |[_,_,_,_],_::_,h=>by simp [Zcz] at h
def Zdg (lead:Int):Int→List Int→List (Int×Int)
 |_,[]=>[]
 |c,p::ps=>(lead*256+Zd2 c,p)::Zdg lead (c+1) ps
def ZdQ:List (Int×Int×List Int)→List (Int×Int)
 |[]=>[]
 |t::l=>Zdg t.1 (Zai t.2.1) t.2.2++ZdQ l
def RL:List (Int×Int×List Int):=[(136,64,R136),(161,64,R161),(163,64,R163),(164,64,R164),(165,64,R165)]
def ZcA:List (Int×Int)→Int→Int
 |[],_=> -1
 |t::l,p=>if t.2=p then t.1 else ZcA l p
def Zay:List (Int×Int×List Int)→Int→Int→Int
 |[],_,_=>0
 |t::l,lead,c=>if t.1=lead∧0≤c - Zai t.2.1∧c - Zai t.2.1<t.2.2.length then t.2.2.getD (c - Zai t.2.1).toNat 0 else Zay l lead c
def Ze9:List (Int×Int×List Int)→Int→Int
 |[],_=> -1
 |t::l,p=>if fnd t.2.2 p<0 then Ze9 l p else t.1*256+Zd2 (Zai t.2.1+fnd t.2.2 p)
def rowL (lead:Int):List Int:=if lead=136 then R136 else if lead=161 then R161 else if lead=163 then R163 else if lead=164 then R164 else if lead=165 then R165 else []
def dq (p:Int):Int:=if p=63 then 0 else p
def rOne (lead c:Int):Int:=if c<0 then 0 else dq ((rowL lead).getD c.toNat 0)
theorem ZrG (lead c:Int)(ps:List Int)(r:List (Int×Int))(p:Int):
 ZcA (Zdg lead c ps++r) p=if fnd ps p<0 then ZcA r p else lead*256+Zd2 (c+fnd ps p):=by
 induction ps generalizing c with
 |nil=>simp [Zdg,fnd]
 |cons q ps ih=>
  have hg:=fnd_ge ps p;have ih':=ih (c+1);by_cases h:q=p
  · have e:fnd (q::ps) p=0:=by simp [fnd,h]
    rw [e];simp [Zdg,ZcA,h]
  · have e0:ZcA (Zdg lead c (q::ps)++r) p=ZcA (Zdg lead (c+1) ps++r) p:=by simp [Zdg,ZcA,h]
    rw [e0,ih'];by_cases h2:fnd ps p= -1
    · have e:fnd (q::ps) p= -1:=by simp [fnd,h,h2]
      rw [e,h2];simp
    · have e:fnd (q::ps) p=fnd ps p+1:=by simp [fnd,h,h2]
      rw [e];have h3:¬fnd ps p<0:=by omega
      have h4:¬(fnd ps p+1<0):=by omega
      rw [if_neg h3,if_neg h4];have e:c+1+fnd ps p=c+(fnd ps p+1):=by omega
      rw [e]
theorem ZqJ (l:List (Int×Int×List Int))(p:Int):Ze9 l p=ZcA (ZdQ l) p:=by
 induction l with
 |nil=>rfl
 |cons t l ih=>simp only [Ze9,ZdQ,ZrG,ih]
theorem ZhK:ZdQ SP=(ZdQ RL).filter fun t=>decide (t.2≠63):=by decide+kernel
def Zdl (lead:Int):Bool:=(List.range 157).all fun c=>decide (Zay SP lead c=rOne lead c)&&(decide (Zay SP lead c=0)||(decide (ZcA (ZdQ SP) (Zay SP lead c)=lead*256+Zd2 c)))
theorem Zr1:Zdl 136=true∧Zdl 161=true∧Zdl 163=true∧Zdl 164=true∧Zdl 165=true:=by decide+kernel
theorem ZrZ {lead:Int} (h:Zdl lead=true){c:Int} (h0:0≤c)(h1:c<157):
 Zay SP lead c=rOne lead c∧(Zay SP lead c=0∨ZcA (ZdQ SP) (Zay SP lead c)=lead*256+Zd2 c):=by
 unfold Zdl at h;have:=List.all_eq_true.1 h c.toNat (List.mem_range.2 (by omega));have e:((c.toNat:Nat):Int)=c:=by omega
 rw [e] at this;simpa using this
theorem ZrX {l:List (Int×Int×List Int)} {lead:Int} (h:∀t∈l,t.1≠lead)(c:Int):Zay l lead c=0:=by
 induction l with
 |nil=>rfl
 |cons t l ih=>
  have h1:=h t (by simp);simp only [Zay];rw [if_neg (by intro hh;exact h1 hh.1)];exact ih fun x hx=>h x (by simp [hx])
theorem Zkd (b:Int): -1≤Zai b∧Zai b<157:=by unfold Zai;repeat' split;all_goals omega
theorem Ztd {b:Int} (h:0≤Zai b):Zd2 (Zai b)=b:=by
 unfold Zai at*;unfold Zd2;repeat' split at*;all_goals omega
theorem ZrC {lead:Int} (h:∃t∈SP,t.1=lead):lead=136∨lead=161∨lead=163∨lead=164∨lead=165:=by
 obtain⟨t,ht,rfl⟩:=h;simp [SP] at ht;rcases ht with rfl|rfl|rfl|rfl|rfl|rfl|rfl|rfl|rfl|rfl|rfl<;>simp
theorem ZlE (lead b:Int)(h:0≤Zai b):
 Zay SP lead (Zai b)=rOne lead (Zai b)∧(Zay SP lead (Zai b)=0∨Ze9 SP (Zay SP lead (Zai b))=lead*256+b):=by
 rw [ZqJ];have hc:=Zkd b;by_cases hl:lead=136∨lead=161∨lead=163∨lead=164∨lead=165
 · obtain⟨a1,a2,a3,a4,a5⟩:=Zr1;have hk:Zdl lead=true:=by
    rcases hl with rfl|rfl|rfl|rfl|rfl
    · exact a1
    · exact a2
    · exact a3
    · exact a4
    · exact a5
   have:=ZrZ hk h hc.2;rw [Ztd h] at this;exact this
 · have h0:Zay SP lead (Zai b)=0:=ZrX (fun t ht e=>hl (ZrC ⟨t,ht,e⟩)) _;refine⟨?_,Or.inl h0⟩;rw [h0];simp only [not_or] at hl;obtain⟨b1,b2,b3,b4,b5⟩:=hl;unfold rOne rowL;simp [b1,b2,b3,b4,b5,dq]
theorem Ztl:SP.all (fun t=>t.2.2.all fun p=>decide (128<p∧p≤65535∧(p<55296∨57343<p)))=true:=by decide+kernel
theorem Ztm {t:Int×Int×List Int} (ht:t∈SP):∀p∈t.2.2,128<p∧p≤65535∧(p<55296∨57343<p):=by
 intro p hp;have:=List.all_eq_true.1 (List.all_eq_true.1 Ztl t ht) p hp;simpa using this
theorem ZqY {l:List Int} {k:Nat} (h:k<l.length):l.getD k 0∈l:=by
 rw [List.getD_eq_getElem?_getD,List.getElem?_eq_getElem h];simp
theorem ZrY {l:List (Int×Int×List Int)} (hl:∀t∈l,t∈SP)(lead c:Int):
 Zay l lead c=0∨(128<Zay l lead c∧Zay l lead c≤65535∧(Zay l lead c<55296∨57343<Zay l lead c)):=by
 induction l with
 |nil=>exact Or.inl rfl
 |cons t l ih=>
  simp only [Zay];split
  · rename_i hc
    have hm:t.2.2.getD (c - Zai t.2.1).toNat 0∈t.2.2:=ZqY (by omega);exact Or.inr (Ztm (hl t (by simp)) _ hm)
  · exact ih fun x hx=>hl x (by simp [hx])
end Go.Proofs.YtecandjkbbpooaaGreatDoor
namespace Go.Proofs.YtecandjkbbpooaaGreatDoor
open Go Go.RowKit
def sB (n:Nat):ByteArray:=⟨(hexL (SP.getD n (0,0,[])).2.2).toArray⟩
theorem lit (n:Nat)(d:Array UInt8)(h:Zcz d.toList (SP.getD n (0,0,[])).2.2=true):ByteArray.mk d=sB n:=by
 have:=Zk7 _ _ h;unfold sB;rw [←this]
def TW:List (Int×Int×Int):=[(98,202,772),(100,202,780),(163,234,772),(165,234,780)]
def Zbw (lead b:Int):Int:=if Zai b<0 then 0 else Zay SP lead (Zai b)
def twoF:List (Int×Int×Int)→Int→Int→List Int
 |[],_,_=>[]
 |t::l,lead,b=>if lead=136∧b=t.1 then [t.2.1,t.2.2] else twoF l lead b
def twoL (lead b:Int):List Int:=twoF TW lead b
theorem ZtW {lead b:Int} (h:lead≠136):twoL lead b=[]:=by
 simp [twoL,TW,twoF,h]
def Zdv (lead b:Int):List Int:=if Zbw lead b≠0 then [Zbw lead b] else twoL lead b
theorem Zr0 (lead b:Int):Zbw lead b=0∨(128<Zbw lead b∧Zbw lead b≤65535∧(Zbw lead b<55296∨57343<Zbw lead b)):=by
 unfold Zbw;split
 · exact .inl rfl
 · exact ZrY (fun _ h=>h) lead _
end Go.Proofs.YtecandjkbbpooaaGreatDoor
namespace Go.Proofs.YtecandjkbbpooaaGreatDoor
open Go Go.RowKit Go.Maps
def twoV (x y:UInt8):Value:= .agg #[.int .u8 x.toNat,.int .u8 y.toNat]
def Zfu:Value→Option (DataW Unit×List MemPlace)
 | .agg ⟨[.string s]⟩=>some (.lit (.string s.data.toList),[])
 |_=>none
theorem ZtJ {v:Value} {z:DataW Unit×List MemPlace} (h:Zfu v=some z):∃s:ByteArray,v= .agg #[.string s]∧z=(.lit (.string s.data.toList),[]):=by
 unfold Zfu at h;split at h
 · injection h with h;exact⟨_,rfl,h.symm⟩
 · cases h
theorem law2u:Keyed Tryz.prog 264:=Keyed.of_law (deep_law_laid (m:=3) (by kernel_rfl) (by decide) (of_decide_eq_true (by kernel_rfl)) (by kernel_rfl) (by kernel_rfl))
theorem u8_wf (x:UInt8):(Lit.int .u8 (x.toNat:Int)).wf=true:=by
 have:=x.toNat_lt;simp [Lit.wf,IntKind.min,IntKind.max,IntKind.bits,IntKind.signed];omega
theorem Zt2 (z:UInt8):(Lit.int .u8 (z.toNat:Int)).keyBytes=[z]:=by
 have hz:=z.toNat_lt;have e1:((z.toNat:Int) % 2^IntKind.u8.bits).toNat=z.toNat:=by
  show((z.toNat:Int) % 2^8).toNat=z.toNat
  omega
 show bytesBE 1 ((z.toNat:Int) % 2^IntKind.u8.bits).toNat=[z]
 rw [e1];simp [bytesBE,bytesLE]
theorem Zle (x y:UInt8):keyOf Tryz.prog 264 (twoV x y)=some (.string [x,y]):=by
 have h1:Tryz.prog.keyType 264=true:=by kernel_rfl
 have h3:Tryz.prog.cellsOf 264=2:=by kernel_rfl
 have h4:Tryz.prog.cellsOf 5=1:=by kernel_rfl
 have h5:1≤Tryz.prog.types.size:=of_decide_eq_true (by kernel_rfl);have h2:(twoV x y).formed Tryz.prog 264=true:=by
  simp [twoV,Value.formed,Tryz.underlying264,h3]
 have hk:∀m,Tryz.prog.keyLits (m+1+1) 264 [.int .u8 x.toNat,.int .u8 y.toNat]=some [.int .u8 x.toNat,.int .u8 y.toNat]:=by
  intro m;have hi:∀z:UInt8,Tryz.prog.keyLits (m+1) 5 [.int .u8 z.toNat]=some [.int .u8 z.toNat]:=by
   intro z;rw [Program.keyLits.eq_def];simp only [Tryz.underlying5,u8_wf,and_self,if_true]
  rw [Program.keyLits.eq_def];simp only [Tryz.underlying264,h3,h4,List.length_cons,List.length_nil,if_true];simp only [List.range_succ,List.range_zero,List.nil_append,List.cons_append,List.mapM_cons,List.mapM_nil];simp [hi]
 obtain⟨m,hm⟩:∃m,Tryz.prog.types.size=m+1:=⟨Tryz.prog.types.size - 1,by omega⟩
 unfold keyOf;rw [Tryz.underlying264];simp only [h1,Bool.true_and];rw [if_pos h2,hm];show(Tryz.prog.keyLits (m+1+1) 264 [.int .u8 x.toNat,.int .u8 y.toNat]).map _=_
 rw [hk m,Option.map_some];simp only [keyBytes,List.flatMap_cons,List.flatMap_nil,Zt2,List.append_nil,List.cons_append,List.nil_append]
def MpT (w:World)(b n:Nat)(M:UInt8→UInt8→Option (List UInt8)):Prop:=∃D:DataW Unit,w.ownsMap Tryz.prog 264 Zfu b n D∧(∀x y,(M x y).isSome=Maps.has D (.string [x,y]))∧∀x y t,M x y=some t→∀z,D.atKey (.string [x,y]) z= .lit (.string t)
theorem MpT.made (w:World):MpT (w.alloc (.map #[] 0)) w.heap.size 0 (fun _ _=>none):=⟨.map [],World.ownsMap_made _ _ _ _,fun _ _=>rfl,fun _ _ _ h=>by cases h⟩
theorem MpT.kept {w w':World} {b n:Nat} {M:UInt8→UInt8→Option (List UInt8)} {row:Option Nat} (h:MpT w b n M)(hg:w.grownBy w' row)(hne:some b≠row):MpT w' b n M:=by
 obtain⟨D,h1,h2⟩:=h;exact⟨D,h1.kept hg hne,h2⟩
theorem MpT.below {w w':World} {b n:Nat} {M:UInt8→UInt8→Option (List UInt8)} (h:MpT w b n M)(hb:Below w.heap.size w w'):MpT w' b n M:=
 h.kept (row:=none) ⟨hb.os,hb.tape,hb.output,hb.size,fun k hk _=>hb.block k hk⟩ (by simp)
theorem zeroT (w:World):(zeroValue 266).run Tryz.prog w= .ok (.agg #[.string ⟨#[]⟩]) w:=by kernel_rfl
section
variable {ops:Array Oper} {rest:List Oper} {o:Oper} {a:Act} {Q:Exit→Act→World→Prop} {w:World} {b n:Nat} {M:UInt8→UInt8→Option (List UInt8)}
theorem Zlq (hg:o.guard=none)(m x:Operand)(hop:o.op=Op.lookup 263 m x true)(h:MpT w b n M)(hm:a.eval m= .map (some b))(p q:UInt8)(hx:a.eval x= .agg #[.int .u8 p.toNat,.int .u8 q.toNat])
 (hK:∀t:List UInt8,(∀k,M p q=some k→t=k)→wpList Tryz.prog ops Q rest (a.put o.dst (.tuple #[.agg #[.string (B t)],.bool (M p q).isSome])) w):
 wpList Tryz.prog ops Q (o::rest) a w:=by
 obtain⟨D,h1,h2,h3⟩:=h;refine wpList_lookup_own_ok w hg m x 263 hop 264 266 law2u Tryz.underlying263 Zfu (zeroT _) (.lit (.string [])) [] rfl b n D hm h1 _ (.string [p,q]) hx (Zle p q) ?_;intro v ps hv;rw [←h2];obtain⟨s,rfl,hz⟩:=ZtJ hv;have:=hK s.data.toList (fun k hk=>by
  have e:=h3 p q k hk (.lit (.string []));rw [Prod.mk.injEq] at hz;rw [hz.1] at e;simpa using e)
 rw [←Zd6] at this;exact this
theorem Zlr (hg:o.guard=none)(m x v:Operand)(hop:o.op=Op.mapUpdate 263 m x v)(h:MpT w b n M)(hm:a.eval m= .map (some b))(p q:UInt8)(hx:a.eval x= .agg #[.int .u8 p.toNat,.int .u8 q.toNat])(t:List UInt8)(hv:a.eval v= .agg #[.string (B t)])(hn:n≤10000000)
 (hK:∀w',MpT w' b (n+1) (fun x y=>if x=p∧y=q then some t else M x y)→w.grownBy w' (some b)→wpList Tryz.prog ops Q rest (a.put o.dst undef) w'):
 wpList Tryz.prog ops Q (o::rest) a w:=by
 obtain⟨D,h1,h2,h3⟩:=h;have hr:Zfu (.agg #[.string (B t)])=some (.lit (.string t),[]):=by
  show some ((.lit (.string (B t).data.toList):DataW Unit),([]:List MemPlace))=_
  rw [ZaA]
 refine wpList_mapUpdate_own _ hg m x v 263 hop 264 266 law2u Tryz.underlying263 _ b n D hm h1 (by unfold maxLen;omega) _ _ (.string [p,q]) hx hv (Zle p q) _ [] hr ?_;intro w' h4 h5;have hD:IsMap D:=by obtain⟨es,cl,_,_,_,rfl⟩:=h1;exact⟨_,rfl⟩
 refine hK w' ⟨_,h4,fun x y=> ?_,fun x y k hk z=> ?_⟩ h5
 · show(if x=p∧y=q then some t else M x y).isSome=_
   by_cases e:x=p∧y=q
   · obtain⟨rfl,rfl⟩:=e;rw [if_pos ⟨rfl,rfl⟩,has_put_same hD (show WideAt.IsKeyLit (.string [x,y]) from trivial)];rfl
   · rw [if_neg e,h2,has_put_other (by simpa using e)]
 · have hk:(if x=p∧y=q then some t else M x y)=some k:=hk;by_cases e:x=p∧y=q
   · obtain⟨rfl,rfl⟩:=e;rw [if_pos ⟨rfl,rfl⟩] at hk;injection hk with hk;subst hk;exact atKey_put_same hD (show WideAt.IsKeyLit (.string [x,y]) from trivial) _ _
   · rw [if_neg e] at hk;rw [atKey_put_other (by simpa using e)];exact h3 x y k hk z
end
end Go.Proofs.YtecandjkbbpooaaGreatDoor
namespace Go.Proofs.YtecandjkbbpooaaGreatDoor
open Go Go.RowKit
def v0 (z:Int):Int:=if z= -2 then 0 else z
def g0 (z:Int):Bool:=decide (z≠ -2)
theorem Zk8 {x y:Int} (hy₀:0≤y)(hy:y<256)(hx₀:0≤x)(hx:x<8388608):bits .or .i32 (x*256) y=x*256+y:=
 bits_join .i32 31 (by decide) (fun n h0 h1=>by simp [IntKind.wrap,IntKind.bits,IntKind.signed];omega) 8 (x*256) y (by omega) (by omega) (by omega) hy₀ hy (by omega)
theorem ZjI (s:ByteArray)(i:Nat)(hi:i+1<s.size)(hs:s.size≤140737488355328)(big:Bool)(w:World):
 Calls Tryz.prog 242 #[.string s,.int .i64 i,.bool big] w fun e w'=>e= .returned (.int .i32 (Zs big s[i] s[i+1]))∧Below w.heap.size w w':=by
 have h0:=(s[i]).toNat_lt;have h1:=(s[i+1]).toNat_lt;have hi0:i<s.size:=by omega
 have hA:0≤(i:Int)+1∧(i:Int)+1<(s.size:Int):=by omega
 have hA1:0≤(i:Int)+1:=by omega
 have hA2:(i:Int)+1<(s.size:Int):=by omega
 have hA3:((i:Int)+1).toNat=i+1:=by omega
 go_enter Tryz.func242,Tryz.ntmps242
 cases big
 · go_wp2_with fail
   go_region
   go_wp2_with fail
   go_ret
   exact⟨ZbU (by rw [Zk8 (by omega) (by omega) (by omega) (by omega)];simp [Zs]),(Below.refl _ _).drew⟩
 · go_wp2_with fail
   go_region
   go_wp2_with fail
   go_ret
   exact⟨ZbU (by rw [Zk8 (by omega) (by omega) (by omega) (by omega)];simp [Zs]),(Below.refl _ _).drew⟩
theorem Zkx (s:ByteArray)(i:Nat)(hi:i+1<s.size):s.data.toList.drop i=s[i]::s[i+1]::s.data.toList.drop (i+2):=by
 have h0:i<s.data.toList.length:=by simpa using (by omega:i<s.size)
 have h1:i+1<s.data.toList.length:=by simpa using hi
 rw [List.drop_eq_getElem_cons h0,List.drop_eq_getElem_cons h1];rfl
theorem ZmJ (s:ByteArray)(i:Nat):(s.data.toList.drop i).length=s.size - i:=by simp
theorem Zui {big:Bool} {a b:UInt8} {r:List UInt8} (h:Zs big a b<55296∨57344≤Zs big a b):Zu big (a::b::r)=(Zs big a b,2):=by
 simp only [Zu,if_pos h]
theorem Zuj {big:Bool} {a b:UInt8} {r:List UInt8} (h:¬(Zs big a b<55296∨57344≤Zs big a b))(h2:56320≤Zs big a b):Zu big (a::b::r)=(0,0):=by
 simp only [Zu,if_neg h,if_pos h2]
theorem Zum {big:Bool} {a b:UInt8} {r:List UInt8} (h:¬(Zs big a b<55296∨57344≤Zs big a b))(h2:¬56320≤Zs big a b)(hr:r.length<2):Zu big (a::b::r)=(0,0):=by
 match r,hr with
 |[],_=>simp only [Zu,if_neg h,if_neg h2]
 |[_],_=>simp only [Zu,if_neg h,if_neg h2]
 |_::_::_,hr=>simp at hr;omega
theorem Zuk {big:Bool} {a b c d:UInt8} {r:List UInt8} (h:¬(Zs big a b<55296∨57344≤Zs big a b))(h2:¬56320≤Zs big a b)(h3:Zs big c d<56320∨57344≤Zs big c d):Zu big (a::b::c::d::r)=(0,0):=by
 simp only [Zu,if_neg h,if_neg h2,if_pos h3]
theorem Zuh {big:Bool} {a b c d:UInt8} {r:List UInt8} (h:¬(Zs big a b<55296∨57344≤Zs big a b))(h2:¬56320≤Zs big a b)(h3:¬(Zs big c d<56320∨57344≤Zs big c d)):
 Zu big (a::b::c::d::r)=(65536+(Zs big a b - 55296)*1024+(Zs big c d - 56320),4):=by
 simp only [Zu,if_neg h,if_neg h2,if_neg h3]
theorem ZjA (s:ByteArray)(i:Nat)(hi:i≤s.size)(hs:s.size≤140737488355328)(big:Bool)(w:World):
 Calls Tryz.prog 169 #[.string s,.int .i64 i,.bool big] w fun e w'=>e= .returned (.tuple #[.int .i32 (Zu big (s.data.toList.drop i)).1,.int .i64 (Zu big (s.data.toList.drop i)).2])∧Below w.heap.size w w':=by
 have hl:=ZmJ s i;by_cases h2:i+1<s.size
 · have hd:=Zkx s i h2;have u1:=ZjI s i h2 hs big;have hr:=ZgM big s[i] s[i+1];have lo:=@Zui big s[i] s[i+1] (s.data.toList.drop (i+2));have mi:=@Zuj big s[i] s[i+1] (s.data.toList.drop (i+2));have sh:=@Zum big s[i] s[i+1] (s.data.toList.drop (i+2));have no:=fun c d=>@Zuk big s[i] s[i+1] c d (s.data.toList.drop (i+2+2));have fo:=fun c d=>@Zuh big s[i] s[i+1] c d (s.data.toList.drop (i+2+2));have hl2:=ZmJ s (i+2);generalize Zs big s[i] s[i+1]=u at*;by_cases c1:u<55296
   · have hw:Hid (Zu big (s.data.toList.drop i)=(u,2)):=by rw [hd];exact lo (.inl c1)
     rw [hw.out];clear hl hd lo mi sh no fo hl2;go_enter Tryz.func169,Tryz.ntmps169
     go_wp2_with (go_at_call 242;refine(u1 _).mono ?_;rintro e w1 ⟨rfl,hb1⟩)
     go_ret2
     exact⟨rfl,hb1⟩
   by_cases c2:57344≤u
   · have hw:Hid (Zu big (s.data.toList.drop i)=(u,2)):=by rw [hd];exact lo (.inr c2)
     rw [hw.out];clear hl hd lo mi sh no fo hl2;go_enter Tryz.func169,Tryz.ntmps169
     go_wp2_with (go_at_call 242;refine(u1 _).mono ?_;rintro e w1 ⟨rfl,hb1⟩)
     go_ret2
     exact⟨rfl,hb1⟩
   have hn:¬(u<55296∨57344≤u):=by omega
   by_cases c3:56320≤u
   · have hw:Hid (Zu big (s.data.toList.drop i)=(0,0)):=by rw [hd];exact mi hn c3
     rw [hw.out];clear hl hd lo mi sh no fo hl2 hn;go_enter Tryz.func169,Tryz.ntmps169
     go_wp2_with (go_at_call 242;refine(u1 _).mono ?_;rintro e w1 ⟨rfl,hb1⟩)
     go_ret2
     exact⟨rfl,hb1⟩
   by_cases c4:s.size<i+4
   · have hw:Hid (Zu big (s.data.toList.drop i)=(0,0)):=by rw [hd];exact sh hn c3 (by omega)
     rw [hw.out];clear hl hd lo mi sh no fo hl2 hn;go_enter Tryz.func169,Tryz.ntmps169
     go_wp2_with (go_at_call 242;refine(u1 _).mono ?_;rintro e w1 ⟨rfl,hb1⟩)
     go_ret2
     exact⟨rfl,hb1⟩
   have h4:i+2+1<s.size:=by omega
   have hd2:=Zkx s (i+2) h4;have u2:=ZjI s (i+2) h4 hs big;rw [show(((i+2:Nat):Int))=(i:Int)+2 from by omega] at u2;have hr2:=ZgM big s[i+2] s[i+2+1];have no:=no s[i+2] s[i+2+1];have fo:=fo s[i+2] s[i+2+1];generalize Zs big s[i+2] s[i+2+1]=v at*;by_cases c5:v<56320
   · have hw:Hid (Zu big (s.data.toList.drop i)=(0,0)):=by rw [hd,hd2];exact no hn c3 (.inl c5)
     rw [hw.out];clear hl hd lo mi sh no fo hl2 hn hd2;go_enter Tryz.func169,Tryz.ntmps169
     go_wp2_with (go_at_call 242;first|(refine(u1 _).mono ?_;rintro e w1 ⟨rfl,hb1⟩;have hz1:=hb1.size;clear u1)|(refine(u2 _).mono ?_;rintro e w2 ⟨rfl,hb2⟩))
     go_ret2
     exact⟨rfl,hb1.trans (hb2.mono hz1)⟩
   by_cases c6:57344≤v
   · have hw:Hid (Zu big (s.data.toList.drop i)=(0,0)):=by rw [hd,hd2];exact no hn c3 (.inr c6)
     rw [hw.out];clear hl hd lo mi sh no fo hl2 hn hd2;go_enter Tryz.func169,Tryz.ntmps169
     go_wp2_with (go_at_call 242;first|(refine(u1 _).mono ?_;rintro e w1 ⟨rfl,hb1⟩;have hz1:=hb1.size;clear u1)|(refine(u2 _).mono ?_;rintro e w2 ⟨rfl,hb2⟩))
     go_ret2
     exact⟨rfl,hb1.trans (hb2.mono hz1)⟩
   have hw:Hid (Zu big (s.data.toList.drop i)=(65536+(u - 55296)*1024+(v - 56320),4)):=by rw [hd,hd2];exact fo hn c3 (by omega)
   rw [hw.out];clear hl hd lo mi sh no fo hl2 hn hd2;go_enter Tryz.func169,Tryz.ntmps169
   go_wp2_with (go_at_call 242;first|(refine(u1 _).mono ?_;rintro e w1 ⟨rfl,hb1⟩;have hz1:=hb1.size;clear u1)|(refine(u2 _).mono ?_;rintro e w2 ⟨rfl,hb2⟩))
   go_ret2
   exact⟨by simp,hb1.trans (hb2.mono hz1)⟩
 · have hw:Hid (Zu big (s.data.toList.drop i)=(0,0)):=by
    generalize s.data.toList.drop i=l at*
    match l,hl with
    |[],_=>rfl
    |[_],_=>rfl
    |_::_::_,h=>simp at h;omega
   rw [hw.out];clear hl;go_enter Tryz.func169,Tryz.ntmps169
   go_wp2_with fail
   go_ret2
   exact⟨rfl,Below.refl _ _⟩
end Go.Proofs.YtecandjkbbpooaaGreatDoor
