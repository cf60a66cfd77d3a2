/- Lemmas for a statement on the tops; conditions: as each says. -/
import Derived.Deep.Heap
import Derived.Test.YtjilfbhkdjanhaaGreatDoorM2
set_option linter.all false
set_option maxRecDepth 100000
set_option maxHeartbeats 4000000
open Go.Proofs.Tryz
namespace Go.Proofs.YtjilfbhkdjanhaaGreatDoor
open Go
abbrev Pr:=Nat×Int
abbrev Rw:=Nat×Nat×Int×Option (List Int)
def Zbi(r:Rw)(i:Nat):Int:=match r.2.2.2 with
 |none=>r.2.2.1+i
 |some l=>l.getD i 0
def prs(r:Rw):List Pr:=(List.range r.2.1).map λi=>(r.1+i,Zbi r i)
def Za3(r:Rw):Prop:=1<=r.2.1/\r.1+r.2.1<=1048576/\match r.2.2.2 with
 |none=>0<=r.2.2.1/\r.2.2.1+r.2.1<=1114112
 |some l=>r.2.2.1=0/\l.length=r.2.1/\∀p∈l,0<=p/\p<=1114111
def Srt(l:List Pr):Prop:=l.Pairwise λa b=>a.1<b.1
def Zcm{r:Rw}{x:Pr}:x∈prs r↔r.1<=x.1/\x.1<r.1+r.2.1/\x.2=Zbi r (x.1 - r.1):=by
 unfold prs;rw[List.mem_map];constructor
 ·rintro⟨i,j,rfl⟩;rw[List.mem_range] at j;refine⟨by simp,by simp;omega,by simp⟩
 ·rintro⟨y,u,q⟩;refine⟨x.1 - r.1,List.mem_range.2 (by omega),?_⟩;rw[<-q,show r.1+(x.1 - r.1)=x.1 by omega]
def ZhG(r:Rw):(prs r).length=r.2.1:=by simp[prs]
def ZoC(r:Rw):Srt (prs r):=by
 unfold Srt prs;rw[List.pairwise_map];exact List.pairwise_lt_range.imp λh=>by simp;omega
def Zka:∀(l m:List Pr),Srt l->Srt m->(∀x,x∈l↔x∈m)->l=m
 |[],[],_,_,_=>rfl
 |[],b::m,_,_,h=>by have:=(h b).2 (by simp);simp at this
 |a::l,[],_,_,h=>by have:=(h a).1 (by simp);simp at this
 |a::l,b::m,I,D,h=>by
  have q:=List.pairwise_cons.1 I;have j:=List.pairwise_cons.1 D;have y:a=b:=by
   rcases List.mem_cons.1 ((h a).1 (by simp)) with e|e
   ·exact e
   ·rcases List.mem_cons.1 ((h b).2 (by simp)) with C|C
    ·exact C.symm
    ·have:=j.1 a e;have:=q.1 b C;omega
  subst y;rw[Zka l m q.2 j.2 λx=>?_];constructor
  ·intro u;rcases List.mem_cons.1 ((h x).1 (by simp[u])) with e|e
   ·subst e;have:=q.1 x u;omega
   ·exact e
  ·intro u;rcases List.mem_cons.1 ((h x).2 (by simp[u])) with e|e
   ·subst e;have:=j.1 x u;omega
   ·exact e
def Zei(rs:List Rw):Prop:=rs.Pairwise (λa b=>a.1+a.2.1<=b.1)/\∀r∈rs,Za3 r
def Zgp:∀(rs:List Rw),rs.Pairwise (λa b=>a.1+a.2.1<=b.1)->Srt (rs.flatMap prs)
 |[],_=>by simp[Srt]
 |r::rs,h=>by
  have h':=List.pairwise_cons.1 h;rw[List.flatMap_cons];unfold Srt;rw[List.pairwise_append];refine⟨ZoC r,Zgp rs h'.2,λa y b hb=>?_⟩;obtain⟨q,u,j⟩:=List.mem_flatMap.1 hb;have I:=h'.1 q u;have D:=(Zcm.1 y).2.1;have C:=(Zcm.1 j).1;omega
def Zbs:List Pr->Pr->List Pr
 |[],p=>[p]
 |x::l,p=>if p.1<x.1 then p::x::l else x::Zbs l p
def Zfk{p y:Pr}:∀{l:List Pr},y∈Zbs l p↔y=p\/y∈l
 |[]=>by simp[Zbs]
 |x::l=>by
  unfold Zbs;split
  ·simp
  ·rw[List.mem_cons,Zfk (l:=l),List.mem_cons];constructor
   ·rintro(h|h|h)<;>simp[h]
   ·rintro(h|h|h)<;>simp[h]
def Zkb{p:Pr}:∀{l:List Pr},Srt l->(∀x∈l,x.1≠p.1)->Srt (Zbs l p)
 |[],_,_=>by simp[Zbs,Srt]
 |x::l,h,hn=>by
  have h':=List.pairwise_cons.1 h;unfold Zbs;split
  ·rename_i q
   refine List.pairwise_cons.2 ⟨λy j=>?_,h⟩;rcases List.mem_cons.1 j with rfl|j
   ·exact q
   ·have:=h'.1 y j;omega
  ·rename_i q
   refine List.pairwise_cons.2 ⟨λy j=>?_,Zkb h'.2 λz u=>hn z (by simp[u])⟩;rcases Zfk.1 j with rfl|j
   ·have:=hn x (by simp);omega
   ·exact h'.1 y j
def Zan(l:List Pr)(c:Nat):Bool:=l.any λx=>x.1==c
def Zf8{l:List Pr}{c:Nat}:Zan l c=true↔∃x∈l,x.1=c:=by simp[Zan,List.any_eq_true]
def joinL(l more:List Pr):Option (List Pr):=if more.any (λm=>Zan l m.1)=true then none else some (more.foldl Zbs l)
def ZeA(l j:List Pr):List Pr:=j.foldl (λq p=>if Zan l p.1=true then q else Zbs q p) l
def ZmU:∀(more l:List Pr),Srt l->Srt more->(∀m∈more,∀x∈l,x.1≠m.1)->Srt (more.foldl Zbs l)/\∀y,y∈more.foldl Zbs l↔y∈l\/y∈more
 |[],l,C,_,_=>by simpa using C
 |m::more,l,C,I,hd=>by
  have j:=List.pairwise_cons.1 I;obtain⟨a,b⟩:=ZmU more (Zbs l m) (Zkb C (hd m (by simp))) j.2 λq D x u=>by
   rcases Zfk.1 u with rfl|u
   ·have:=j.1 q D;omega
   ·exact hd q (by simp[D]) x u
  rw[List.foldl_cons];refine⟨a,λy=>?_⟩;rw[b,Zfk,List.mem_cons];constructor
  ·rintro((h|h)|h)<;>simp[h]
  ·rintro(h|h|h)<;>simp[h]
def Zi0(l:List Pr):∀(more j:List Pr),Srt j->Srt more->(∀m∈more,Zan l m.1=false->∀x∈j,x.1≠m.1)->
 Srt (more.foldl (λj p=>if Zan l p.1=true then j else Zbs j p) j)/\∀y,y∈more.foldl (λj p=>if Zan l p.1=true then j else Zbs j p) j↔y∈j\/(y∈more/\Zan l y.1=false)
 |[],j,I,_,_=>by simpa using I
 |m::more,j,I,O,hd=>by
  have C:=List.pairwise_cons.1 O;rw[List.foldl_cons];cases N:Zan l m.1 with
  |true=>
   simp only[if_true];obtain⟨a,b⟩:=Zi0 l more j I C.2 λq D=>hd q (by simp[D]);refine⟨a,λy=>?_⟩;rw[b,List.mem_cons];constructor
   ·rintro(h|⟨h,u⟩)
    ·exact .inl h
    ·exact .inr ⟨.inr h,u⟩
   ·rintro(h|⟨h|h,u⟩)
    ·exact .inl h
    ·subst h;rw[N] at u;cases u
    ·exact .inr ⟨h,u⟩
  |false=>
   simp only[Bool.false_eq_true,if_false];obtain⟨a,b⟩:=Zi0 l more (Zbs j m) (Zkb I (hd m (by simp) N)) C.2 λq D L x J=>by
    rcases Zfk.1 J with rfl|J
    ·have:=C.1 q D;omega
    ·exact hd q (by simp[D]) L x J
   refine⟨a,λy=>?_⟩;rw[b,Zfk,List.mem_cons];constructor
   ·rintro((h|h)|⟨h,u⟩)
    ·subst h;exact .inr ⟨.inl rfl,N⟩
    ·exact .inl h
    ·exact .inr ⟨.inr h,u⟩
   ·rintro(h|⟨h|h,u⟩)
    ·exact .inl (.inr h)
    ·exact .inl (.inl h)
    ·exact .inr ⟨h,u⟩
def Zvu(l m:List Pr)(C:Srt l)(u:Srt m):Srt (ZeA l m)/\∀y,y∈ZeA l m↔y∈l\/(y∈m/\Zan l y.1=false):=
 Zi0 l m l C u λq D h x j e=>by
  have:=Zf8.2 ⟨x,j,e⟩;rw[h] at this;cases this
def Zvv{l m r:List Pr}(u:Srt l)(q:Srt m)(j:Srt r)(h:∀y,y∈r↔y∈l\/(y∈m/\Zan l y.1=false)):r=ZeA l m:=by
 obtain⟨a,b⟩:=Zvu l m u q;exact Zka _ _ j a λx=>by rw[h,b]
abbrev Pce:=Int×Int×Int×ByteArray×Option (List Int)
def Zb8(p:Pce):Prop:=(match p.2.2.2.2 with
 |some ps=>Good p.2.2.2.1 ps
 |none=>∃n,ZbP p.2.2.2.1 n)/\(-9223372036854775808<=p.1/\p.1<9223372036854775808)/\(-2147483648<=p.2.1/\p.2.1<2147483648)/\(-9223372036854775808<=p.2.2.1/\p.2.2.1<9223372036854775808)
def rowOf(p:Pce):Option Rw:=
 if p.2.2.2.1.size≠0 then
  match p.2.2.2.2 with
  |some ps=>if 0<=p.1/\p.1+ps.length<=1048576 then some (p.1.toNat,ps.length,0,some ps) else none
  |none=>none
 else if 0<=p.1/\1<=p.2.2.1/\p.1+p.2.2.1<=1048576/\Zm p.2.1=true/\Zm (p.2.1+p.2.2.1 - 1)=true/\(p.2.1<55296↔p.2.1+p.2.2.1 - 1<55296) then some (p.1.toNat,p.2.2.1.toNat,p.2.1,none)
 else none
def Zgq{p:Int}(h:Zm p=true):0<=p/\p<=1114111:=by
 unfold Zm at h;simp only[decide_eq_true_eq] at h;omega
def Zm4{s:ByteArray}{ps:List Int}(h:Good s ps)(hs:s.size≠0):1<=ps.length:=by
 cases ps with
 |nil=>exact absurd h.size hs
 |cons _ _=>simp
def ZoM{p:Pce}{r:Rw}(D:Zb8 p)(h:rowOf p=some r):Za3 r:=by
 unfold rowOf at h;split at h
 ·rename_i hs
  obtain⟨j,_⟩:=D;generalize p.2.2.2.2=q at*;cases q with
  |none=>cases h
  |some ps=>
   simp only at h j;split at h
   ·injection h with h
    subst h;have y:=Zm4 j hs;refine⟨y,by simp;omega,rfl,rfl,λx C=>Zgq (j.2 x C)⟩
   ·cases h
 ·split at h
  ·rename_i u
   injection h with h
   subst h;have y:=Zgq u.2.2.2.1;have I:=Zgq u.2.2.2.2.1;refine⟨by simp;omega,by simp;omega,by simp;omega,by simp;omega⟩
  ·cases h
def ovl(acc:List Rw)(r:Rw):Bool:=acc.any λq=>decide (q.1<r.1+r.2.1)&&decide (r.1<q.1+q.2.1)
def Zau:List Rw->List Pce->Nat->List Rw⊕Nat
 |acc,[],_=>.inl acc
 |acc,p::l,i=>match rowOf p with
  |none=>.inr i
  |some r=>if ovl acc r=true then .inr i else Zau (acc++[r]) l (i+1)
def ZbI:List Pr->List Pce->Nat->List Pr⊕Nat
 |acc,[],_=>.inl acc
 |acc,p::l,i=>match rowOf p with
  |none=>.inr i
  |some r=>match joinL acc (prs r) with
   |none=>.inr i
   |some a=>ZbI a l (i+1)
def ZcY(a b:Rw):Prop:=a.1+a.2.1<=b.1\/b.1+b.2.1<=a.1
def Told(rs:List Rw)(L:List Pr):Prop:=rs.Pairwise ZcY/\(∀r∈rs,Za3 r)/\Srt L/\∀x,x∈L↔∃r∈rs,x∈prs r
def ZnW{rs:List Rw}{L:List Pr}{r:Rw}(h:Told rs L)(O:Za3 r):ovl rs r=(prs r).any λm=>Zan L m.1:=by
 obtain⟨_,C,_,J⟩:=h;have V:=O.1;rw[Bool.eq_iff_iff,ovl,List.any_eq_true,List.any_eq_true];constructor
 ·rintro⟨q,j,D⟩;simp only[Bool.and_eq_true,decide_eq_true_eq] at D;have U:=(C q j).1;have I:max q.1 r.1<r.1+r.2.1/\max q.1 r.1<q.1+q.2.1:=by omega
  refine⟨(max q.1 r.1,Zbi r (max q.1 r.1 - r.1)),Zcm.2 ⟨by simp;omega,by simp;omega,rfl⟩,Zf8.2 ⟨(max q.1 r.1,Zbi q (max q.1 r.1 - q.1)),(J _).2 ⟨q,j,Zcm.2 ⟨by simp;omega,by simp;omega,rfl⟩⟩,rfl⟩⟩
 ·rintro⟨x,I,D⟩;obtain⟨y,N,e⟩:=Zf8.1 D;obtain⟨q,j,u⟩:=(J y).1 N;have a:=Zcm.1 I;have b:=Zcm.1 u;refine⟨q,j,?_⟩;simp only[Bool.and_eq_true,decide_eq_true_eq];omega
def Zw3{rs:List Rw}{L:List Pr}{r:Rw}(h:Told rs L)(I:Za3 r)(hn:ovl rs r=false):Told (rs++[r]) ((prs r).foldl Zbs L):=by
 have J:=ZnW h I;obtain⟨O,C,hs,U⟩:=h;have hd:∀m∈prs r,∀x∈L,x.1≠m.1:=λm D x N e=>by
  rw[hn] at J;have:=List.any_eq_false.1 J.symm m D;exact this (Zf8.2 ⟨x,N,e⟩)
 obtain⟨a,b⟩:=ZmU (prs r) L hs (ZoC r) hd;refine⟨?_,?_,a,λx=>?_⟩
 ·rw[List.pairwise_append];refine⟨O,by simp,λq j s u=>?_⟩;simp only[List.mem_singleton] at u;subst u;have:=List.any_eq_false.1 hn q j;simp only[Bool.and_eq_true,decide_eq_true_eq,not_and] at this;unfold ZcY;omega
 ·intro q j;rcases List.mem_append.1 j with h|h
  ·exact C q h
  ·simp only[List.mem_singleton] at h;subst h;exact I
 ·rw[b,U];constructor
  ·rintro(⟨q,j,h⟩|h)
   ·exact⟨q,by simp[j],h⟩
   ·exact⟨r,by simp,h⟩
  ·rintro⟨q,j,h⟩;rcases List.mem_append.1 j with y|y
   ·exact .inl ⟨q,y,h⟩
   ·simp only[List.mem_singleton] at y;subst y;exact .inr h
def ZnJ:∀(l:List Pce) (rs:List Rw) (L:List Pr) (i:Nat),(∀p∈l,Zb8 p)->Told rs L->(∃rs' M,Zau rs l i=.inl rs'/\ZbI L l i=.inl M/\Told rs' M)\/∃k,Zau rs l i=.inr k/\ZbI L l i=.inr k
 |[],rs,L,i,_,h=>.inl ⟨rs,L,rfl,rfl,h⟩
 |p::l,rs,L,i,u,h=>by
  simp only[Zau,ZbI];cases C:rowOf p with
  |none=>exact .inr ⟨i,rfl,rfl⟩
  |some r=>
   have j:=ZoM (u p (by simp)) C;have I:=ZnW h j;simp only[joinL];rw[<-I];cases y:ovl rs r with
   |true=>exact .inr ⟨i,rfl,rfl⟩
   |false=>
    simp only[Bool.false_eq_true,if_false];exact ZnJ l (rs++[r]) _ (i+1) (λq D=>u q (by simp[D])) (Zw3 h j y)
def Zw1:Told [] []:=⟨by simp,by simp,by simp[Srt],by simp⟩
def Zw2{rs rs':List Rw}{L:List Pr}(h:Told rs L)(y:rs'.Perm rs)(hs:rs'.Pairwise λa b=>a.1<=b.1):Zei rs'/\rs'.flatMap prs=L:=by
 obtain⟨O,C,U,N⟩:=h;have j:∀r∈rs',Za3 r:=λr u=>C r (y.mem_iff.1 u);have I:rs'.Pairwise ZcY:=by
  refine(y.pairwise_iff ?_).2 O;intro a b h;unfold ZcY at*;omega
 have hb:rs'.Pairwise λa b=>a.1+a.2.1<=b.1:=by
  have q:=hs.and I;refine q.imp_of_mem ?_;intro a b J D h;obtain⟨W,V⟩:=h;have:=(j b D).1;unfold ZcY at V;omega
 refine⟨⟨hb,j⟩,Zka _ _ (Zgp rs' hb) U λx=>?_⟩;rw[N,List.mem_flatMap];constructor
 ·rintro⟨r,u,h⟩;exact⟨r,y.mem_iff.1 u,h⟩
 ·rintro⟨r,u,h⟩;exact⟨r,y.mem_iff.2 u,h⟩
def ZeG:List Int:=[9472,9474,9484,9488,9492,9496,9500,9508,9516,9524,9532,9600,9604,9608,9612,9616,9617,9618,9619,8992,9632,8729,8730,8776,8804,8805,160,8993,176,178,183,247,9552,9553,9554,1105,9555,9556,9557,9558,9559,9560,9561,9562,9563,9564,9565,9566,9567,9568,9569,1025,9570,9571,9572,9573,9574,9575,9576,9577,9578,9579,9580,169,1102,1072,1073,1094,1076,1077,1092,1075,1093,1080,1081,1082,1083,1084,1085,1086,1087,1103,1088,1089,1090,1091,1078,1074,1100,1099,1079,1096,1101,1097,1095,1098,1070,1040,1041,1062,1044,1045,1060,1043,1061,1048,1049,1050,1051,1052,1053,1054,1055,1071,1056,1057,1058,1059,1046,1042,1068,1067,1047,1064,1069,1065,1063,1066]
def Zfd:List Int:=[9617,9618,9619,9474,9508,9569,9570,9558,9557,9571,9553,9559,9565,9564,9563,9488,9492,9524,9516,9500,9472,9532,9566,9567,9562,9556,9577,9574,9568,9552,9580,9575,9576,9572,9573,9561,9560,9554,9555,9579,9578,9496,9484,9608,9604,9612,9616,9600]
def Zfn:List Int:=[1025,1105,1028,1108,1031,1111,1038,1118,176,8729,183,8730,8470,164,9632,160]
def ukrL:List (Nat×Int):=[(164,1108),(166,1110),(167,1111),(173,1169),(180,1028),(182,1030),(183,1031),(189,1168)]
def Zbj(c n:Nat):Int:=
 if c=0\/n<128 then n
 else if c=3 then
  if n<176 then(1040+n - 128:Int) else if n<224 then Zfd.getD (n - 176) 0 else if n<240 then(1088+n - 224:Int) else Zfn.getD (n - 240) 0
 else if c=2 then((ukrL.find? λx=>x.1==n).map (·.2)).getD (ZeG.getD (n - 128) 0)
 else ZeG.getD (n - 128) 0
def Zz(c:Nat):List Pr:=(List.range 256).map λn=>(n,Zbj c n)
def ZcA(c:UInt8):Int:=if 48<=c/\c<=57 then c.toNat - 48 else if 65<=c/\c<=70 then c.toNat - 55 else -1
def hexV(l:List UInt8):Int:=l.foldl (λp c=>p*16+ZcA c) 0
def Z0:List UInt8->List Int
 |a::b::c::d::_::r=>hexV [a,b,c,d]::Z0 r
 |_=>[]
def Zbo:List UInt8->Bool
 |a::b::c::d::_::r=>([a,b,c,d].all λx=>decide (0<=ZcA x))&&Zm (hexV [a,b,c,d])&&Zbo r
 |[]=>true
 |_=>false
def koiB:List UInt8:=[50,53,48,48,32,50,53,48,50,32,50,53,48,67,32,50,53,49,48,32,50,53,49,52,32,50,53,49,56,32,50,53,49,67,32,50,53,50,52,32,50,53,50,67,32,50,53,51,52,32,50,53,51,67,32,50,53,56,48,32,50,53,56,52,32,50,53,56,56,32,50,53,56,67,32,50,53,57,48,32,50,53,57,49,32,50,53,57,50,32,50,53,57,51,32,50,51,50,48,32,50,53,65,48,32,50,50,49,57,32,50,50,49,65,32,50,50,52,56,32,50,50,54,52,32,50,50,54,53,32,48,48,65,48,32,50,51,50,49,32,48,48,66,48,32,48,48,66,50,32,48,48,66,55,32,48,48,70,55,32,50,53,53,48,32,50,53,53,49,32,50,53,53,50,32,48,52,53,49,32,50,53,53,51,32,50,53,53,52,32,50,53,53,53,32,50,53,53,54,32,50,53,53,55,32,50,53,53,56,32,50,53,53,57,32,50,53,53,65,32,50,53,53,66,32,50,53,53,67,32,50,53,53,68,32,50,53,53,69,32,50,53,53,70,32,50,53,54,48,32,50,53,54,49,32,48,52,48,49,32,50,53,54,50,32,50,53,54,51,32,50,53,54,52,32,50,53,54,53,32,50,53,54,54,32,50,53,54,55,32,50,53,54,56,32,50,53,54,57,32,50,53,54,65,32,50,53,54,66,32,50,53,54,67,32,48,48,65,57,32,48,52,52,69,32,48,52,51,48,32,48,52,51,49,32,48,52,52,54,32,48,52,51,52,32,48,52,51,53,32,48,52,52,52,32,48,52,51,51,32,48,52,52,53,32,48,52,51,56,32,48,52,51,57,32,48,52,51,65,32,48,52,51,66,32,48,52,51,67,32,48,52,51,68,32,48,52,51,69,32,48,52,51,70,32,48,52,52,70,32,48,52,52,48,32,48,52,52,49,32,48,52,52,50,32,48,52,52,51,32,48,52,51,54,32,48,52,51,50,32,48,52,52,67,32,48,52,52,66,32,48,52,51,55,32,48,52,52,56,32,48,52,52,68,32,48,52,52,57,32,48,52,52,55,32,48,52,52,65,32,48,52,50,69,32,48,52,49,48,32,48,52,49,49,32,48,52,50,54,32,48,52,49,52,32,48,52,49,53,32,48,52,50,52,32,48,52,49,51,32,48,52,50,53,32,48,52,49,56,32,48,52,49,57,32,48,52,49,65,32,48,52,49,66,32,48,52,49,67,32,48,52,49,68,32,48,52,49,69,32,48,52,49,70,32,48,52,50,70,32,48,52,50,48,32,48,52,50,49,32,48,52,50,50,32,48,52,50,51,32,48,52,49,54,32,48,52,49,50,32,48,52,50,67,32,48,52,50,66,32,48,52,49,55,32,48,52,50,56,32,48,52,50,68,32,48,52,50,57,32,48,52,50,55,32,48,52,50,65,32]
def b0B:List UInt8:=[50,53,57,49,32,50,53,57,50,32,50,53,57,51,32,50,53,48,50,32,50,53,50,52,32,50,53,54,49,32,50,53,54,50,32,50,53,53,54,32,50,53,53,53,32,50,53,54,51,32,50,53,53,49,32,50,53,53,55,32,50,53,53,68,32,50,53,53,67,32,50,53,53,66,32,50,53,49,48,32,50,53,49,52,32,50,53,51,52,32,50,53,50,67,32,50,53,49,67,32,50,53,48,48,32,50,53,51,67,32,50,53,53,69,32,50,53,53,70,32,50,53,53,65,32,50,53,53,52,32,50,53,54,57,32,50,53,54,54,32,50,53,54,48,32,50,53,53,48,32,50,53,54,67,32,50,53,54,55,32,50,53,54,56,32,50,53,54,52,32,50,53,54,53,32,50,53,53,57,32,50,53,53,56,32,50,53,53,50,32,50,53,53,51,32,50,53,54,66,32,50,53,54,65,32,50,53,49,56,32,50,53,48,67,32,50,53,56,56,32,50,53,56,52,32,50,53,56,67,32,50,53,57,48,32,50,53,56,48,32]
def f0B:List UInt8:=[48,52,48,49,32,48,52,53,49,32,48,52,48,52,32,48,52,53,52,32,48,52,48,55,32,48,52,53,55,32,48,52,48,69,32,48,52,53,69,32,48,48,66,48,32,50,50,49,57,32,48,48,66,55,32,50,50,49,65,32,50,49,49,54,32,48,48,65,52,32,50,53,65,48,32,48,48,65,48,32]
def koi_sg:Z0 koiB=ZeG/\Zbo koiB=true:=by decide+kernel
def b0_sg:Z0 b0B=Zfd/\Zbo b0B=true:=by decide+kernel
def f0_sg:Z0 f0B=Zfn/\Zbo f0B=true:=by decide+kernel
def ZiX:∀l:List UInt8,5<=l.length->∃a b c d e r,l=a::b::c::d::e::r
 |[],h=>by simp at h
 |[_],h=>by simp at h
 |[_,_],h=>by simp at h
 |[_,_,_],h=>by simp at h
 |[_,_,_,_],h=>by simp at h
 |a::b::c::d::e::r,_=>⟨a,b,c,d,e,r,rfl⟩
def Zi7:∀(k:Nat) (l:List UInt8),5*k<=l.length->(Z0 l).drop k=Z0 (l.drop (5*k))/\k<=(Z0 l).length
 |0,l,_=>by simp
 |k+1,l,h=>by
  obtain⟨a,b,c,d,e,r,rfl⟩:=ZiX l (by omega);obtain⟨q,j⟩:=Zi7 k r (by simp at h;omega);refine⟨?_,by simp[Z0];exact j⟩;rw[show 5*(k+1)=5*k+5 by omega];simp only[Z0,List.drop_succ_cons];exact q
def Zi9:∀(k:Nat) (l:List UInt8),5*k<=l.length->Zbo l=true->Zbo (l.drop (5*k))=true
 |0,l,_,j=>by simpa using j
 |k+1,l,h,j=>by
  obtain⟨a,b,c,d,e,r,rfl⟩:=ZiX l (by omega);rw[show 5*(k+1)=5*k+5 by omega];simp only[List.drop_succ_cons];unfold Zbo at j;simp only[Bool.and_eq_true] at j;exact Zi9 k r (by simp at h;omega) j.2
def Zus{l:List UInt8}(h:l.length<5)(j:Zbo l=true):l=[]:=by
 match l,h,j with
 |[],_,_=>rfl
 |[_],_,j=>simp[Zbo] at j
 |[_,_],_,j=>simp[Zbo] at j
 |[_,_,_],_,j=>simp[Zbo] at j
 |[_,_,_,_],_,j=>simp[Zbo] at j
 |_::_::_::_::_::_,h,_=>simp at h;omega
def Zuq{k:Nat}{l:List UInt8}(h:5*k<=l.length){a b c d e:UInt8}{r:List UInt8}(hd:l.drop (5*k)=a::b::c::d::e::r):
 (Z0 l).take (k+1)=(Z0 l).take k++[hexV [a,b,c,d]]/\l.drop (5*(k+1))=r:=by
 obtain⟨j,q⟩:=Zi7 k l h;rw[hd,Z0] at j;constructor
 ·rw[List.take_add_one,<-List.head?_drop,j];rfl
 ·rw[show 5*(k+1)=5*k+5 by omega,<-List.drop_drop,hd];rfl
def Zdt{c:UInt8}(h:0<=ZcA c):c.toNat<128/\ZcA c<16:=by
 unfold ZcA at*;split at h
 ·rename_i j;obtain⟨j,q⟩:=j;simp only[UInt8.le_iff_toNat_le] at j q;split<;>first|(constructor<;>(simp at*;omega))|(rename_i hn;exact absurd ⟨by simpa[UInt8.le_iff_toNat_le] using j,by simpa[UInt8.le_iff_toNat_le] using q⟩ hn)
 ·split at h
  ·rename_i h0 j;obtain⟨j,q⟩:=j;simp only[UInt8.le_iff_toNat_le] at j q;simp at j q;rw[if_neg h0];split<;>(constructor<;>omega)
  ·omega
def Zm3:∀l:List UInt8,(∀c∈l,c.toNat<128)->Zd (l.map λc=>(c.toNat:Int))=l/\∀p∈l.map (λc:UInt8=>(c.toNat:Int)),Zm p=true
 |[],_=>⟨rfl,by simp⟩
 |c::l,h=>by
  obtain⟨y,u⟩:=Zm3 l (λx q=>h x (List.mem_cons_of_mem _ q));have C:=h c (List.mem_cons_self ..);constructor
  ·rw[List.map_cons,Za9,y,Ze8 (by omega) (by omega)];simp
  ·intro p j;rw[List.map_cons,List.mem_cons] at j;rcases j with rfl|j
   ·rw[Zar];omega
   ·exact u p j
def eB:ByteArray:=⟨#[]⟩
def tB(ps:List Int):ByteArray:=⟨(Zd ps).toArray⟩
def Zbt(a b n:Int):Pce:=(a,b,n,eB,some [])
def ZdT(a:Int)(ps:List Int):Pce:=(a,0,0,tB ps,some ps)
def latP:List Pce:=[Zbt 0 0 256]
def rusP:List Pce:=[Zbt 0 0 128,ZdT 128 ZeG]
def ukrP:List Pce:=[Zbt 164 1108 1,Zbt 166 1110 2,Zbt 173 1169 1,Zbt 180 1028 1,Zbt 182 1030 2,Zbt 189 1168 1]
def altP:List Pce:=[Zbt 0 0 128,Zbt 128 1040 48,ZdT 176 Zfd,Zbt 224 1088 16,ZdT 240 Zfn]
def Zfs(a b n:Int)(h:0<=a/\a<1000/\0<=b/\b<10000/\0<=n/\n<1000):Zb8 (Zbt a b n)/\(Zbt a b n).2.2.2.1.size<=1000000:=
 ⟨⟨⟨rfl,by simp⟩,by simp[Zbt];omega,by simp[Zbt];omega,by simp[Zbt];omega⟩,(show eB.size<=1000000 by decide)⟩
def Zjq(a:Int)(ps:List Int)(h:0<=a/\a<1000)(u:(ps.all λp=>Zm p)=true)(y:ps.length<=1000):Zb8 (ZdT a ps)/\(ZdT a ps).2.2.2.1.size<=1000000:=by
 have q:Good (tB ps) ps:=Zm5 (λp j=>List.all_eq_true.1 u p j);refine⟨⟨q,by simp[ZdT];omega,by simp[ZdT],by simp[ZdT]⟩,?_⟩;show(tB ps).size<=1000000
 rw[q.size];have:=Zbp ps;omega
def Zwl:(ZeG.all λp=>Zm p)=true:=by decide+kernel
def Zt5:(Zfd.all λp=>Zm p)=true:=by decide+kernel
def Zvs:(Zfn.all λp=>Zm p)=true:=by decide+kernel
def ZuI:∀p∈latP,Zb8 p/\p.2.2.2.1.size<=1000000:=by
 intro p j;simp only[latP,List.mem_cons,List.not_mem_nil,or_false] at j;subst j;exact Zfs _ _ _ (by decide)
def Zwk:∀p∈rusP,Zb8 p/\p.2.2.2.1.size<=1000000:=by
 intro p j;simp only[rusP,List.mem_cons,List.not_mem_nil,or_false] at j;rcases j with rfl|rfl
 ·exact Zfs _ _ _ (by decide)
 ·exact Zjq _ _ (by decide) Zwl (by decide)
def Zxl:∀p∈ukrP,Zb8 p/\p.2.2.2.1.size<=1000000:=by
 intro p j;simp only[ukrP,List.mem_cons,List.not_mem_nil,or_false] at j;rcases j with rfl|rfl|rfl|rfl|rfl|rfl<;>exact Zfs _ _ _ (by decide)
def ZsD:∀p∈altP,Zb8 p/\p.2.2.2.1.size<=1000000:=by
 intro p j;simp only[altP,List.mem_cons,List.not_mem_nil,or_false] at j;rcases j with rfl|rfl|rfl|rfl|rfl
 ·exact Zfs _ _ _ (by decide)
 ·exact Zfs _ _ _ (by decide)
 ·exact Zjq _ _ (by decide) Zt5 (by decide)
 ·exact Zfs _ _ _ (by decide)
 ·exact Zjq _ _ (by decide) Zvs (by decide)
def madeB(l:List Pce)(L:List Pr):Bool:=match ZbI [] l 0 with
 | .inl M=>M==L
 | .inr _=>false
def Zhw{l:List Pce}{L:List Pr}(h:madeB l L=true):ZbI [] l 0=.inl L:=by
 unfold madeB at h;generalize ZbI [] l 0=r at*;cases r with
 |inl M=>simp only[beq_iff_eq] at h;rw[h]
 |inr _=>cases h
def ownU:List Pr:=[(164,1108),(166,1110),(167,1111),(173,1169),(180,1028),(182,1030),(183,1031),(189,1168)]
def ZuJ:ZbI [] latP 0=.inl (Zz 0):=Zhw (by decide+kernel)
def Zwm:ZbI [] rusP 0=.inl (Zz 1):=Zhw (by decide+kernel)
def Zxm:ZbI [] ukrP 0=.inl ownU:=Zhw (by decide+kernel)
def ZsE:ZbI [] altP 0=.inl (Zz 3):=Zhw (by decide+kernel)
def Zxn:ZeA ownU (Zz 1)=Zz 2:=by
 have h:(ZeA ownU (Zz 1)==Zz 2)=true:=by decide+kernel
 exact beq_iff_eq.1 h
def ZbH(L:List Pr)(n:Nat):Option Int:=L.foldl (λo x=>if x.1=n then some x.2 else o) none
def Zjp(L:List Pr)(x:Pr)(n:Nat):ZbH (L++[x]) n=if x.1=n then some x.2 else ZbH L n:=by
 unfold ZbH;rw[List.foldl_append];rfl
def Znx(f:Nat->Int)(n:Nat):∀N,ZbH ((List.range N).map λm=>(m,f m)) n=if n<N then some (f n) else none
 |0=>rfl
 |N+1=>by
  rw[List.range_succ,List.map_append,List.map_cons,List.map_nil,Zjp,Znx f n N];by_cases h:N=n
  ·subst h;simp
  ·by_cases j:n<N
   ·rw[if_neg h,if_pos j,if_pos (by omega)]
   ·rw[if_neg h,if_neg j,if_neg (by omega)]
def ls_set(c n:Nat)(hn:n<256):ZbH (Zz c) n=some (Zbj c n):=by
 unfold Zz;rw[Znx,if_pos hn]
def ZO(L:List Pr)(p:Int):Option Nat:=(L.find? λx=>x.2==p&&decide (x.1<256)).map (·.1)
def Zl4(L:List Pr)(x:Pr)(p:Int):ZO (L++[x]) p=(ZO L p).or (if x.2=p/\x.1<256 then some x.1 else none):=by
 unfold ZO;rw[List.find?_append];cases h:L.find? (λx=>x.2==p&&decide (x.1<256)) with
 |some y=>simp
 |none=>
  simp only[Option.map_none,Option.none_or,List.find?_cons,List.find?_nil];by_cases j:x.2=p/\x.1<256
  ·rw[if_pos j];simp[j.1,j.2]
  ·rw[if_neg j];have:(x.2==p&&decide (x.1<256))=false:=by
    rw[Bool.and_eq_false_iff];by_cases q:x.2=p
    ·right;simp;have:=λu=>j ⟨q,u⟩;omega
    ·left;simpa using q
   rw[this];rfl
def ZsX{L:List Pr}{p:Int}{n:Nat}(h:ZO L p=some n):n<256/\(n,p)∈L:=by
 unfold ZO at h;cases j:L.find? (λx=>x.2==p&&decide (x.1<256)) with
 |none=>rw[j] at h;cases h
 |some y=>
  rw[j] at h;injection h with h
  have q:=List.find?_some j;have D:=List.mem_of_find?_eq_some j;simp only[Bool.and_eq_true,beq_iff_eq,decide_eq_true_eq] at q;obtain⟨C,u⟩:=q;subst h;exact⟨u,by rw[<-C];exact D⟩
def dcF(L:List Pr):List UInt8->Nat->List Int⊕Nat
 |[],_=>.inl []
 |x::r,i=>match ZbH L x.toNat with
  |none=>.inr i
  |some p=>match dcF L r (i+1) with
   | .inl ps=>.inl (p::ps)
   | .inr j=>.inr j
def ZiN(L:List Pr):∀(j:List UInt8) (ps:List Int) (i:Nat),j.map (λx=>ZbH L x.toNat)=ps.map some->dcF L j i=.inl ps
 |[],[],_,_=>rfl
 |[],_::_,_,h=>by simp at h
 |_::_,[],_,h=>by simp at h
 |x::j,p::ps,i,h=>by
  simp only[List.map_cons,List.cons.injEq] at h;unfold dcF;rw[h.1,ZiN L j ps (i+1) h.2]
def Zmn(L:List Pr):∀(k:Nat) (j:List UInt8) (ps:List Int) (i:Nat) (x:UInt8),(j.take k).map (λx=>ZbH L x.toNat)=ps.map some->j[k]?=some x->ZbH L x.toNat=none->dcF L j i=.inr (i+k)
 |0,j,ps,i,x,_,q,C=>by
  cases j with
  |nil=>simp at q
  |cons y j=>
   simp at q;subst q;unfold dcF;rw[C];rfl
 |k+1,j,ps,i,x,u,q,C=>by
  cases j with
  |nil=>simp at q
  |cons y j=>
   cases ps with
   |nil=>simp at u
   |cons p ps=>
    simp only[List.take_succ_cons,List.map_cons,List.cons.injEq] at u;simp at q;unfold dcF;rw[u.1,Zmn L k j ps (i+1) x u.2 q C];simp only[Sum.inr.injEq];omega
def dc_set(c:Nat)(j:List UInt8)(i:Nat):dcF (Zz c) j i=.inl (j.map λx=>Zbj c x.toNat):=
 ZiN _ _ _ _ (by rw[List.map_map];exact List.map_congr_left λx _=>ls_set c _ x.toNat_lt)
def ecF(f:Int->Option Nat):List Int->Nat->List UInt8⊕Nat
 |[],_=>.inl []
 |p::r,i=>match f p with
  |none=>.inr i
  |some c=>match ecF f r (i+(Lib.encodeRune p).length) with
   | .inl cs=>.inl (c.toUInt8::cs)
   | .inr j=>.inr j
def ZmE(f:Int->Option Nat):∀(ps:List Int) (cs:List Nat) (i:Nat),ps.map f=cs.map some->ecF f ps i=.inl (cs.map Nat.toUInt8)
 |[],[],_,_=>rfl
 |[],_::_,_,h=>by simp at h
 |_::_,[],_,h=>by simp at h
 |p::ps,c::cs,i,h=>by
  simp only[List.map_cons,List.cons.injEq] at h;unfold ecF;rw[h.1,ZmE f ps cs _ h.2];rfl
def ZmF(f:Int->Option Nat):∀(k:Nat) (ps:List Int) (cs:List Nat) (i:Nat) (p:Int),(ps.take k).map f=cs.map some->ps[k]?=some p->f p=none->ecF f ps i=.inr (i+(Zd (ps.take k)).length)
 |0,ps,cs,i,p,_,j,y=>by
  cases ps with
  |nil=>simp at j
  |cons q ps=>
   simp at j;subst j;unfold ecF;rw[y];simp[Zb0]
 |k+1,ps,cs,i,p,u,j,y=>by
  cases ps with
  |nil=>simp at j
  |cons q ps=>
   cases cs with
   |nil=>simp at u
   |cons c cs=>
    simp only[List.take_succ_cons,List.map_cons,List.cons.injEq] at u;simp at j;unfold ecF;rw[u.1,ZmF f k ps cs _ p u.2 j y,List.take_succ_cons,Za9,List.length_append];simp only[Sum.inr.injEq];omega
def sc_all:(List.range 4).all (λc=>(List.range 256).all λn=>Zm (Zbj c n))=true:=by decide+kernel
def Zo4{c n:Nat}(j:c<=3)(hn:n<256):Zm (Zbj c n)=true:=
 List.all_eq_true.1 (List.all_eq_true.1 sc_all c (List.mem_range.2 (by omega))) n (List.mem_range.2 hn)
open Go Go.RowKit
abbrev Sl:=Option Addr×Nat×Nat
def slV(q:Sl):Value:=.slice q.1 q.2.1 q.2.2
def rV(x:Rw×Sl):List Value:=[.int .i64 (x.1.1:Int),.int .i64 (x.1.2.1:Int),.int .i32 x.1.2.2.1,slV x.2]
def ZeC(x:Rw×Sl):(rV x).length=4:=rfl
def ZI(w:World)(B:Nat)(x:Rw×Sl):Prop:=match x.1.2.2.2 with
 |none=>x.2=(none,0,0)
 |some l=>∃q c cs fr,x.2=(some q,l.length,c)/\l.length<=c/\q.block<B/\q.spot=none/\w.heap[q.block]?=some (.cells cs 21 fr)/\∀j,j<l.length->cs[q.off+j]?=some (.int .i32 (l.getD j 0))
def addr_eq{q:Addr}(h:q.spot=none)(j:Nat):q.add j=⟨q.block,q.off+j,none⟩:=by
 unfold Addr.add;split
 ·rename_i e;subst e;cases q;simp at h;subst h;rfl
 ·rfl
def Zj5{w:World}{q:Addr}{cs:Array Value}{T:TypeId}{fr:Nat×Nat}(u:q.spot=none)(y:w.heap[q.block]?=some (.cells cs T fr))(j:Nat):w.cell? (q.add j)=cs[q.off+j]?:=by
 rw[addr_eq u,cell_of_row _ q.block _ _ _ _ y]
def ZI.keep{w w':World}{B:Nat}{x:Rw×Sl}(h:ZI w B x)(y:∀k,k<B->(∃cs fr,w.heap[k]?=some (.cells cs 21 fr))->w'.heap[k]?=w.heap[k]?):ZI w' B x:=by
 unfold ZI at*;generalize x.1.2.2.2=q at*;cases q with
 |none=>exact h
 |some l=>
  obtain⟨L,c,cs,fr,J,I,u,C,j,D⟩:=h;exact⟨L,c,cs,fr,J,I,u,C,(y _ u ⟨cs,fr,j⟩).trans j,D⟩
def ZI.below{w w':World}{B:Nat}{x:Rw×Sl}(h:ZI w B x)(hb:Below B w w'):ZI w' B x:=h.keep λk j _=>hb.block k j
def ZI.more{w:World}{B B':Nat}{x:Rw×Sl}(h:ZI w B x)(hb:B<=B'):ZI w B' x:=by
 unfold ZI at*;generalize x.1.2.2.2=q at*;cases q with
 |none=>exact h
 |some l=>
  obtain⟨J,c,cs,fr,I,D,C,u,j,y⟩:=h;exact⟨J,c,cs,fr,I,D,Nat.lt_of_lt_of_le C hb,u,j,y⟩
def ZdF(f n:Nat)(t:Int)(v:Value)(j:f+n<=1048576)(w:World):
 Calls prog 279 #[.agg #[.int .i64 (f:Int),.int .i64 (n:Int),.int .i32 t,v]] w λe w'=>e=.returned (.int .i64 ((f:Int)+n))/\Below w.heap.size w w':=by
 have q:IntKind.i64.wrap ((f:Int)+n)=(f:Int)+n:=IntWalk.i64_in _ (by omega);go_enter func279,ntmps279
 go_wp2_with fail
 go_ret
 exact⟨rfl,(Below.refl _ w).alloc NL _⟩
def ZbT(f n:Int):Bool:=decide (0<=f/\1<=n/\f+n<=1048576)
def Zif(f n:Int)(q: -9223372036854775808<=f/\f<9223372036854775808)(w:World):
 Calls prog 346 #[.int .i64 f,.int .i64 n] w λe w'=>e=.returned (.bool (ZbT f n))/\w=w':=by
 by_cases C:0<=f
 ·by_cases y:f<1048576
  ·have D:IntKind.i64.wrap (1048576 - f)=1048576 - f:=IntWalk.i64_in _ (by omega);by_cases u:1<=n
   ·have j:ZbT f n=decide (n<=1048576 - f):=by unfold ZbT;exact decide_eq_decide.2 (by omega)
    rw[j];go_enter func346,ntmps346
    go_wp2_with fail
    go_ret
    exact⟨rfl,rfl⟩
   ·have j:ZbT f n=false:=by unfold ZbT;exact decide_eq_false (by omega)
    rw[j];go_enter func346,ntmps346
    go_wp2_with fail
    go_ret
    exact⟨rfl,rfl⟩
  ·have j:ZbT f n=false:=by unfold ZbT;exact decide_eq_false (by omega)
   rw[j];go_enter func346,ntmps346
   go_wp2_with fail
   go_ret
   exact⟨rfl,rfl⟩
 ·have j:ZbT f n=false:=by unfold ZbT;exact decide_eq_false (by omega)
  rw[j];go_enter func346,ntmps346
  go_wp2_with fail
  go_ret
  exact⟨rfl,rfl⟩
def Zc2(f:Int)(t:Int)(n:Int)(w:World):
 Calls prog 225 #[.int .i64 f,.int .i32 t,.int .i64 n] w λe w'=>e=.returned (.agg #[.int .i64 f,.int .i32 t,.int .i64 n,.string ⟨#[]⟩])/\Below w.heap.size w w':=by
 go_enter func225,ntmps225
 go_wp2_with fail
 refine bodyPost_ret (v:=.agg #[.int .i64 f,.int .i32 t,.int .i64 n,.string ⟨#[]⟩]) (by simp[results,results225,go_sem]) rfl ⟨rfl,?_⟩;exact(Below.refl _ w).alloc NL _
def Zii(f:Int)(s:ByteArray)(w:World):
 Calls prog 275 #[.int .i64 f,.string s] w λe w'=>e=.returned (.agg #[.int .i64 f,.int .i32 0,.int .i64 0,.string s])/\Below w.heap.size w w':=by
 go_enter func275,ntmps275
 go_wp2_with fail
 refine bodyPost_ret (v:=.agg #[.int .i64 f,.int .i32 0,.int .i64 0,.string s]) (by simp[results,results275,go_sem]) rfl ⟨rfl,?_⟩;exact(Below.refl _ w).alloc NL _
def Zlk(x:Rw×Sl)(c:Nat)(X:Za3 x.1)(hc:x.1.1<=c/\c<x.1.1+x.1.2.1)(w:World)(hs:ZI w w.heap.size x):
 Calls prog 280 #[.agg (rV x).toArray,.int .i64 (c:Int)] w λe w'=>e=.returned (.int .i32 (Zbi x.1 (c - x.1.1)))/\Below w.heap.size w w':=by
 obtain⟨⟨f,n,t,q⟩,v⟩:=x;obtain⟨h1,h2,O⟩:=X;simp only at h1 h2 O hc;have e1:IntKind.i64.wrap ((c:Int) - f)=(c:Int) - f:=IntWalk.i64_in _ (by omega);have e2:((c:Int) - f).toNat=c - f:=by omega
 have aa:(c:Int) - f=((c - f:Nat):Int):=by omega
 cases q with
 |none=>
  obtain rfl:v=(none,0,0):=hs;simp only at O;have e3:IntKind.i32.wrap ((c:Int) - f)=(c:Int) - f:=IntWalk.i32_in _ (by omega);have e4:IntKind.i32.wrap (t+((c:Int) - f))=t+((c:Int) - f):=IntWalk.i32_in _ (by omega);have C:Zbi (f,n,t,none) (c - f)=t+((c - f:Nat):Int):=rfl;simp only;rw[C];unfold rV slV;simp only;have I:=λ(w:World) (a:Option Addr) (n c:Nat)=>run_neq_slice_nil_any (P:=prog) w 297 _ a n c 0 0 underlying297;go_enter func280,ntmps280
  go_wp2_with fail
  go_ret
  exact⟨rfl,(Below.refl _ w).alloc NL _⟩
 |some l=>
  obtain⟨W,cp,cs,fr,U,J,L,D,V,y⟩:=hs;have u:∀j,j<l.length->w.cell? (W.add j)=some (.int .i32 (l.getD j 0)):=λj Z=>(Zj5 D V j).trans (y j Z);clear y V;simp only at U J u O;subst U;have Y:c - f<l.length:=by omega
  have N:(W.add (c - f)).block<w.heap.size:=by unfold Addr.add;split<;>exact L
  have ab:=λo=>(World.cell?_alloc_lt w o _ N).trans (u (c - f) Y);have C:Zbi (f,n,t,some l) (c - f)=l.getD (c - f) 0:=rfl;simp only;rw[C];generalize l.getD (c - f) 0=z at*;clear u C;unfold rV slV;simp only;have I:=λ(w:World) (a:Option Addr) (n c:Nat)=>run_neq_slice_nil_any (P:=prog) w 297 _ a n c 0 0 underlying297;go_enter func280,ntmps280
  go_wp2_with fail
  go_ret
  exact⟨rfl,(Below.refl _ w).alloc NL _⟩
def bx{w wr:World}{T:TypeId}{cs:Array Value}(hb:Below (w.alloc (.cells cs T)).heap.size (w.alloc (.cells cs T)) wr):
 (∀j,wr.cell? ⟨w.heap.size,j,none⟩=cs[j]?)/\(∀j,wr.frozen? ⟨w.heap.size,j,none⟩=false)/\w.heap.size<wr.heap.size:=by
 have u:=hb.size;simp only[World.size_alloc] at u;have q:w.heap.size<(w.alloc (.cells cs T)).heap.size:=by simp
 have e:=heap_alloc_new w (.cells cs T);refine⟨λj=>?_,λj=>?_,by omega⟩
 ·rw[hb.cell (p:=⟨w.heap.size,j,none⟩) q,cell_of_row _ w.heap.size j _ T (0,0) e]
 ·rw[hb.frozen (p:=⟨w.heap.size,j,none⟩) q,frozen_of_row _ w.heap.size j _ T e]
def bx4{w wr:World}{T:TypeId}{a b c d:Value}(hb:Below (w.alloc (.cells #[a,b,c,d] T)).heap.size (w.alloc (.cells #[a,b,c,d] T)) wr):
 (wr.cell? ⟨w.heap.size,0,none⟩=some a/\wr.cell? ⟨w.heap.size,1,none⟩=some b/\wr.cell? ⟨w.heap.size,2,none⟩=some c/\wr.cell? ⟨w.heap.size,3,none⟩=some d)/\(wr.frozen? ⟨w.heap.size,0,none⟩=false/\wr.frozen? ⟨w.heap.size,1,none⟩=false/\wr.frozen? ⟨w.heap.size,2,none⟩=false/\wr.frozen? ⟨w.heap.size,3,none⟩=false):=by
 obtain⟨q,j,_⟩:=bx hb;exact⟨⟨q 0,q 1,q 2,q 3⟩,j 0,j 1,j 2,j 3⟩
def Ziz(a:Addr)(i j:Nat):(a.add i).add j=a.add (i+j):=by
 unfold Addr.add;by_cases u:i=0
 ·subst u;simp
 ·by_cases q:j=0
  ·subst q;simp
  ·rw[if_neg u,if_neg q,if_neg (by omega)];simp[Nat.add_assoc]
def ZC(r:Rw)(a b:Nat):Rw:=(a,b - a,match r.2.2.2 with
 |none=>(r.2.2.1+((a - r.1:Nat):Int),none)
 |some l=>(0,some ((l.drop (a - r.1)).take (b - a))))
def ZhC{r:Rw}{a b:Nat}(h:Za3 r)(C:r.1<=a)(J:a<b)(y:b<=r.1+r.2.1):Za3 (ZC r a b):=by
 obtain⟨f,n,t,q⟩:=r;obtain⟨I,D,j⟩:=h;simp only at I D j C y;cases q with
 |none=>
  simp only at j;refine⟨by simp[ZC];omega,by simp[ZC];omega,?_⟩;simp only[ZC];omega
 |some l=>
  simp only at j;refine⟨by simp[ZC];omega,by simp[ZC];omega,?_⟩;simp only[ZC];refine⟨trivial,by rw[List.length_take,List.length_drop];omega,λp u=>j.2.2 p (List.mem_of_mem_drop (List.mem_of_mem_take u))⟩
def Zoe{r:Rw}{a b c:Nat}(j:r.1<=a)(y:a<=c)(u:c<b):Zbi (ZC r a b) (c - a)=Zbi r (c - r.1):=by
 obtain⟨f,n,t,q⟩:=r;simp only at j;cases q with
 |none=>simp only[ZC,Zbi];omega
 |some l=>
  simp only[ZC,Zbi,List.getD];rw[List.getElem?_take_of_lt (by omega),List.getElem?_drop,show a - f+(c - a)=c - f by omega]
def Zod{r:Rw}{a b:Nat}(u:r.1<=a)(J:b<=r.1+r.2.1){x:Pr}:x∈prs (ZC r a b)↔a<=x.1/\x.1<b/\x∈prs r:=by
 have I:(ZC r a b).1=a:=rfl;have D:(ZC r a b).2.1=b - a:=rfl;rw[Zcm,Zcm,I,D];constructor
 ·rintro⟨j,y,q⟩;rw[Zoe u j (by omega)] at q;exact⟨j,by omega,by omega,by omega,q⟩
 ·rintro⟨j,y,q,L,C⟩;exact⟨j,by omega,by rw[Zoe u j y];exact C⟩
def Ziq(x:Rw×Sl)(a b:Nat)(w0:World)(e:Ending)(w':World):Prop:=∃v,e=.returned (.agg (rV (ZC x.1 a b,v)).toArray)/\ZI w' w0.heap.size (ZC x.1 a b,v)/\Below w0.heap.size w0 w'
def Zlc(x:Rw×Sl)(a b:Nat)(hx:Za3 x.1)(h1:x.1.1<=a)(h2:a<b)(h3:b<=x.1.1+x.1.2.1)(w:World)(hs:ZI w w.heap.size x):
 Calls prog 315 #[.agg (rV x).toArray,.int .i64 (a:Int),.int .i64 (b:Int)] w (Ziq x a b w):=by
 have u:=λ(W:World) (hb:Below w.heap.size w W)=>Zlk x a hx ⟨h1,by omega⟩ W ((hs.below hb).more hb.size);obtain⟨⟨f,n,t,q⟩,v⟩:=x;obtain⟨g1,g2,V⟩:=hx;simp only at g1 g2 V h1 h3 u;have e1:IntKind.i64.wrap ((b:Int) - a)=(b:Int) - a:=IntWalk.i64_in _ (by omega);have Y:(b:Int) - a=((b - a:Nat):Int):=by omega
 have ao:=λ(w:World) (a:Option Addr) (n c:Nat)=>run_neq_slice_nil_any (P:=prog) w 297 _ a n c 0 0 underlying297;cases q with
 |none=>
  obtain rfl:v=(none,0,0):=hs;unfold rV slV at u⊢;unfold Ziq rV slV;simp only[ZC] at u⊢;have hr:Zbi (f,n,t,none) (a - f)=t+((a - f:Nat):Int):=rfl;rw[hr] at u;go_enter func315,ntmps315
  go_wp2_with (go_at_call 280;refine MR (u _ (((((Below.refl _ w).alloc NL _).alloc (by simp) _).alloc (by simp;omega) _))) λw1 y=>?_;have aq:=Ze y;obtain⟨⟨b0,b1,b2,b3⟩,f0,f1,f2,f3⟩:=bx4 y;obtain⟨⟨c0,Y,c2,X⟩,k0,k1,k2,k3⟩:=bx4 (Ze y);simp only[World.size_alloc] at b0 b1 b2 b3 f0 f1 f2 f3 c0 Y c2 X k0 k1 k2 k3)
  refine bodyPost_ret (v:=.agg #[.int .i64 (a:Int),.int .i64 ((b - a:Nat):Int),.int .i32 (t+((a - f:Nat):Int)),.slice none 0 0]) (by simp[results,results315,go_sem,c0,Y,c2,X]) rfl ?_;refine⟨(none,0,0),rfl,rfl,?_⟩;exact(((((Ze (Ze (Ze y))).setCell (by simp;omega) _).setCell (by simp) _).setCell (by simp) _).setCell (by simp) _).setCell (by simp) _
 |some l=>
  obtain⟨D,cp,cs,fr,hv,O,U,I,hh,J⟩:=hs;simp only at hv O J V;obtain⟨rfl,g4,_⟩:=V;subst hv;have e2:IntKind.i64.wrap ((a:Int) - f)=(a:Int) - f:=IntWalk.i64_in _ (by omega);have c2:(a:Int) - f=((a - f:Nat):Int):=by omega
  have e3:IntKind.i64.wrap ((b:Int) - f)=(b:Int) - f:=IntWalk.i64_in _ (by omega);have X:(b:Int) - f=((b - f:Nat):Int):=by omega
  have hfin:ZI w w.heap.size ((a,b - a,0,some ((l.drop (a - f)).take (b - a))),(some (D.add (a - f)),b - f - (a - f),cp - (a - f))):=by
   have C:(D.add (a - f)).block=D.block:=by rw[addr_eq I]
   have L:(D.add (a - f)).off=D.off+(a - f):=by rw[addr_eq I]
   refine⟨D.add (a - f),cp - (a - f),cs,fr,?_,?_,by rw[C];exact U,by rw[addr_eq I],by rw[C];exact hh,λj hj=>?_⟩
   ·simp only[List.length_take,List.length_drop];rw[show min (b - a) (l.length - (a - f))=b - f - (a - f) by omega]
   ·simp only[List.length_take,List.length_drop];omega
   ·simp only[List.length_take,List.length_drop] at hj;have:=J (a - f+j) (by omega);rw[L,Nat.add_assoc,this];simp only[List.getD];rw[List.getElem?_take_of_lt (by omega),List.getElem?_drop]
  have N:=QQ hfin;have g5:a - f<=b - f:=by omega
  have g6:b - f<=cp:=by omega
  have g7:a - f<=cp:=by omega
  clear J hh hfin u;unfold Ziq rV slV;simp only[ZC];go_enter func315,ntmps315
  go_wp2_with fail
  refine bodyPost_ret (v:=.agg #[.int .i64 (a:Int),.int .i64 ((b - a:Nat):Int),.int .i32 0,.slice (some (D.add (a - f))) (b - f - (a - f)) (cp - (a - f))]) (by simp[results,results315,go_sem]) rfl ?_;have hB:∀o1 o2 Z,Below w.heap.size w (((w.alloc o1).alloc o2).alloc Z):=λo1 o2 Z=>(((Below.refl _ w).alloc NL _).alloc (by simp) _).alloc (by simp;omega) _;exact⟨(some (D.add (a - f)),b - f - (a - f),cp - (a - f)),rfl,N.below (hB _ _ _),hB _ _ _⟩
def pV(p:Pce):List Value:=[.int .i64 p.1,.int .i32 p.2.1,.int .i64 p.2.2.1,.string p.2.2.2.1]
def Zn9(p:Pce):(pV p).length=4:=rfl
def ZbJ:Value:=.agg #[.int .i64 0,.int .i64 0,.int .i32 0,.slice none 0 0]
def ZgT(p:Pce)(w0:World)(e:Ending)(w':World):Prop:=(rowOf p=none/\e=.returned (.tuple #[ZbJ,.bool false])\/∃r v,rowOf p=some r/\e=.returned (.tuple #[.agg (rV (r,v)).toArray,.bool true])/\ZI w' w'.heap.size (r,v))/\Below w0.heap.size w0 w'
def Zhr(f n:Int):ZbT f n=true↔0<=f/\1<=n/\f+n<=1048576:=by unfold ZbT;exact decide_eq_true_iff
def Zcv{w:World}{k j:Nat}{p:Addr}(h:p.block≠k)(v:Value):(w.setCell ⟨k,j,none⟩ v).cell? p=w.cell? p:=
 World.cell?_setCell_other _ _ _ _ (λe=>h (by rw[<-e]))
def heap_set{w:World}{k j g:Nat}(h:g≠k)(v:Value):(w.setCell ⟨k,j,none⟩ v).heap[g]?=w.heap[g]?:=Go.Deep.blk_setCell_other w _ v g h
def sg_box{w:World}{k:Nat}{ps:List Int}{A:Option Addr}{c f:Nat}(y:Zaz w w.heap.size .i32 A ps)(C:ps.length<=c)(W:1<=ps.length)(I:∀u,A=some u->u.block≠k/\u.spot=none/\∃cs fr,w.heap[u.block]?=some (.cells cs 21 fr)/\∀j,j<ps.length->cs[u.off+j]?=some (.int .i32 (ps.getD j 0)))(v0 O N L:Value)(o:Obj):
 ZI (((((w.setCell ⟨k,0,none⟩ v0).setCell ⟨k,1,none⟩ O).setCell ⟨k,2,none⟩ N).setCell ⟨k,3,none⟩ L).alloc o) (((((w.setCell ⟨k,0,none⟩ v0).setCell ⟨k,1,none⟩ O).setCell ⟨k,2,none⟩ N).setCell ⟨k,3,none⟩ L).alloc o).heap.size ((f,ps.length,0,some ps),(A,ps.length,c)):=by
 obtain⟨u,rfl,V,_⟩:=y.at_ (i:=0) (by omega);obtain⟨q,D,cs,fr,U,J⟩:=I u rfl;refine⟨u,c,cs,fr,rfl,C,by simp;omega,D,?_,J⟩;rw[Below.heap_alloc _ _ _ (by simp;omega),heap_set q,heap_set q,heap_set q,heap_set q];exact U
def Zre(p:Pce)(hp:Zb8 p)(hs:p.2.2.2.1.size<=1000000)(w:World)(hT:Zo w):
 Calls prog 312 #[.agg (pV p).toArray] w (ZgT p w):=by
 have O:Hid (rowOf p=none->∀w',Below w.heap.size w w'->ZgT p w (.returned (.tuple #[ZbJ,.bool false])) w'):=QQ λh w' hb=>⟨.inl ⟨h,rfl⟩,hb⟩
 have HY:Hid (∀r v w',rowOf p=some r->ZI w' w'.heap.size (r,v)->Below w.heap.size w w'->ZgT p w (.returned (.tuple #[.agg (rV (r,v)).toArray,.bool true])) w'):=QQ λr v w' h Y hb=>⟨.inr ⟨r,v,h,rfl,Y⟩,hb⟩
 generalize ZgT p w=P at*;unfold ZbJ at O;obtain⟨f,t,n,s,q⟩:=p;obtain⟨Y,hf,ht,hn⟩:=hp;simp only at Y hf ht hn hs;have aa:∀o1 o2,Below w.heap.size w ((w.alloc o1).alloc o2):=λo1 o2=>((Below.refl _ w).alloc NL _).alloc (by simp) _;have j:rowOf (f,t,n,s,q)=if s.size≠0 then
  match q with
  |some ps=>if 0<=f/\f+ps.length<=1048576 then some (f.toNat,ps.length,0,some ps) else none
  |none=>none
  else if 0<=f/\1<=n/\f+n<=1048576/\Zm t=true/\Zm (t+n - 1)=true/\(t<55296↔t+n - 1<55296) then some (f.toNat,n.toNat,t,none)
  else none:=rfl
 unfold pV;by_cases hz:s.size=0
 ·rw[if_neg (by simpa using hz)] at j;have aD:s.toList.isEmpty=true:=by
   rw[ByteArray.toList_eq,show s.data.toList=[] from List.eq_nil_of_length_eq_zero (by simpa using hz)];rfl
  have u:=λw=>Zif f n hf w;have I:=λw=>ZfN t w;clear Y;cases X:ZbT f n with
  |false=>
   have am:¬(0<=f/\1<=n/\f+n<=1048576):=λh=>by rw[(Zhr f n).2 h] at X;cases X
   rw[if_neg (λh=>am ⟨h.1,h.2.1,h.2.2.1⟩)] at j;have J:=QQ (O j);rw[X] at u;clear O HY j am;go_enter func312,ntmps312
   go_wp2_with (go_at_call 346;refine(u _).mono ?_;rintro e L ⟨rfl,rfl⟩)
   refine bodyPost_ret (v:=.tuple #[ZbJ,.bool false]) (by simp[ZbJ,results,results312,go_sem]) rfl ?_;exact J _ (aa _ _)
  |true=>
   have C:=(Zhr f n).1 X;rw[X] at u;cases V:Zm t with
   |false=>
    rw[if_neg (λh=>by rw[V] at h;cases h.2.2.2.1)] at j;have J:=QQ (O j);rw[V] at I;clear O HY j;go_enter func312,ntmps312
    go_wp2_with (first|(go_at_call 346;refine(u _).mono ?_;rintro e L ⟨rfl,rfl⟩)|(go_at_call 295;refine(I _).mono ?_;rintro e L ⟨rfl,rfl⟩))
    refine bodyPost_ret (v:=.tuple #[ZbJ,.bool false]) (by simp[ZbJ,results,results312,go_sem]) rfl ?_;exact J _ (aa _ _)
   |true=>
    rw[V] at I;have h1:=Zgq V;have e1:IntKind.i64.wrap (n - 1)=n - 1:=IntWalk.i64_in _ (by omega);have e2:IntKind.i32.wrap (n - 1)=n - 1:=IntWalk.i32_in _ (by omega);have e3:IntKind.i32.wrap (t+(n - 1))=t+(n - 1):=IntWalk.i32_in _ (by omega);have W:=λw=>ZfN (t+(n - 1)) w;have e4:t+n - 1=t+(n - 1):=by omega
    rw[e4] at j;cases U:Zm (t+(n - 1)) with
    |false=>
     rw[if_neg (λh=>by rw[U] at h;cases h.2.2.2.2.1)] at j;have J:=QQ (O j);rw[U] at W;clear O HY j e4;go_enter func312,ntmps312
     go_wp2_with (first|(go_at_call 346;refine(u _).mono ?_;rintro e L ⟨rfl,rfl⟩)|(go_at_call 295;first|(refine(I _).mono ?_;rintro e L ⟨rfl,rfl⟩;clear I)|(refine(W _).mono ?_;rintro e L ⟨rfl,rfl⟩)))
     refine bodyPost_ret (v:=.tuple #[ZbJ,.bool false]) (by simp[ZbJ,results,results312,go_sem]) rfl ?_;exact J _ (aa _ _)
    |true=>
     rw[U] at W;by_cases N:t<55296↔t+(n - 1)<55296
     ·have aC:(!decide (t<55296)==decide (t+(n - 1)<55296))=false:=by simp[N]
      rw[if_pos ⟨C.1,C.2.1,C.2.2,V,U,N⟩] at j;have Z:((f.toNat:Nat):Int)=f:=by omega
      have an:((n.toNat:Nat):Int)=n:=by omega
      have J:=QQ (HY _ (none,0,0) · j rfl);unfold rV slV at J;simp only[Z,an] at J;clear O HY j e4 Z an C N;go_enter func312,ntmps312
      go_wp2_with (first|(go_at_call 346;refine(u _).mono ?_;rintro e L ⟨rfl,rfl⟩)|(go_at_call 295;first|(refine(I _).mono ?_;rintro e L ⟨rfl,rfl⟩;clear I)|(refine(W _).mono ?_;rintro e L ⟨rfl,rfl⟩)))
      refine bodyPost_ret (v:=.tuple #[.agg #[.int .i64 f,.int .i64 n,.int .i32 t,.slice none 0 0],.bool true]) (by simp[results,results312,go_sem]) rfl ?_;exact J _ (aa _ _)
     ·have aC:(!decide (t<55296)==decide (t+(n - 1)<55296))=true:=by
       have a:t<55296:=by omega
       have b:¬t+(n - 1)<55296:=by omega
       simp[a,b]
      rw[if_neg (λh=>N h.2.2.2.2.2)] at j;have J:=QQ (O j);clear O HY j e4 N;go_enter func312,ntmps312
      go_wp2_with (first|(go_at_call 346;refine(u _).mono ?_;rintro e L ⟨rfl,rfl⟩)|(go_at_call 295;first|(refine(I _).mono ?_;rintro e L ⟨rfl,rfl⟩;clear I)|(refine(W _).mono ?_;rintro e L ⟨rfl,rfl⟩)))
      refine bodyPost_ret (v:=.tuple #[ZbJ,.bool false]) (by simp[ZbJ,results,results312,go_sem]) rfl ?_;exact J _ (aa _ _)
 ·rw[if_pos (by simpa using hz)] at j;have aD:s.toList.isEmpty=false:=by
   have:=(show s.data.toList.length=s.size by simp)
   rw[ByteArray.toList_eq];generalize s.data.toList=l at*;cases l with
   |nil=>simp at this;omega
   |cons _ _=>rfl
  cases q with
  |none=>
   obtain⟨k,aq⟩:=Y;have u:∀w,Calls prog 346 #[.int .i64 f,.int .i64 0] w λe w'=>e=.returned (.bool false)/\w=w':=λw=>by
    have:=Zif f 0 hf w;rw[show ZbT f 0=false from decide_eq_false (by omega)] at this;exact this
   have hc:=λw hT=>Zp0 s k aq (by omega) w hT;have J:=QQ (O j);clear O HY j;go_enter func312,ntmps312
   go_wp2_with (first|(go_at_call 346;refine(u _).mono ?_;rintro e L ⟨rfl,rfl⟩)|(go_at_call 335;refine MR (hc _ (ZK (ZK hT _) _)) λL y=>?_;obtain⟨⟨b0,b1,b2,b3⟩,f0,f1,f2,f3⟩:=bx4 y;obtain⟨⟨c0,c1,c2,c3⟩,k0,k1,k2,k3⟩:=bx4 (Ze y);simp only[World.size_alloc] at b0 b1 b2 b3 f0 f1 f2 f3))
   refine bodyPost_ret (v:=.tuple #[ZbJ,.bool false]) (by simp[ZbJ,results,results312,go_sem,b0,b1,b2,b3]) rfl ?_;exact J _ (((((Ze (Ze y)).setCell (by simp) _).setCell (by simp) _).setCell (by simp) _).setCell (by simp) _)
  |some ps=>
   have Y:Good s ps:=Y;have aB:=Zm4 Y hz;have aV:=Y.len;have u:=λw=>Zif f ps.length hf w;have hc:=λw hT=>ZkK s ps Y (by omega) w hT;simp only at j;cases X:ZbT f ps.length with
   |false=>
    rw[if_neg (λh=>by rw[(Zhr f ps.length).2 ⟨h.1,by omega,h.2⟩] at X;cases X)] at j;rw[X] at u;have J:=QQ (O j);clear O HY j;go_enter func312,ntmps312
    go_wp2_with (first|(go_at_call 346;refine(u _).mono ?_;rintro e L ⟨rfl,rfl⟩)|(go_at_call 335;refine MR (hc _ (ZK (ZK hT _) _)) λL y=>?_;obtain⟨⟨b0,b1,b2,b3⟩,f0,f1,f2,f3⟩:=bx4 y;obtain⟨⟨c0,c1,c2,c3⟩,k0,k1,k2,k3⟩:=bx4 (Ze y);simp only[World.size_alloc] at b0 b1 b2 b3 f0 f1 f2 f3))
    refine bodyPost_ret (v:=.tuple #[ZbJ,.bool false]) (by simp[ZbJ,results,results312,go_sem,b0,b1,b2,b3]) rfl ?_;exact J _ (((((Ze (Ze y)).setCell (by simp) _).setCell (by simp) _).setCell (by simp) _).setCell (by simp) _)
   |true=>
    have C:=(Zhr f ps.length).1 X;rw[if_pos ⟨C.1,C.2.2⟩] at j;rw[X] at u;have Z:((f.toNat:Nat):Int)=f:=by omega
    have aA:=λw hT=>Zrs s ps Y (by omega) w hT;have J:=QQ (λv w'=>HY _ v w' j);unfold rV slV at J;simp only[Z] at J;clear O HY j Z C;go_enter func312,ntmps312
    go_wp2_with (first|(go_at_call 346;refine(u _).mono ?_;rintro e L ⟨rfl,rfl⟩)|(go_at_call 335;refine MR (hc _ (ZK (ZK hT _) _)) λL y=>?_;have az:=y.size;simp only[World.size_alloc] at az;obtain⟨⟨b0,b1,b2,b3⟩,f0,f1,f2,f3⟩:=bx4 y;obtain⟨⟨c0,c1,c2,c3⟩,k0,k1,k2,k3⟩:=bx4 (Ze y);simp only[World.size_alloc] at b0 b1 b2 b3 f0 f1 f2 f3)|(go_at_call 249;refine(aA _ (ZaQ hT (Ze (Ze y)) NL)).mono ?_;rintro e w2 ⟨A,c,rfl,ap,ak,ao,D⟩;have aS:=D.size;have g0:w.heap.size<w2.heap.size:=(by omega);have g1:w.heap.size+1<w2.heap.size:=(by omega);have d0:=(D.cell (p:=⟨w.heap.size,0,none⟩) (by show w.heap.size<_;omega)).trans c0;have q0:=(D.cell (p:=⟨w.heap.size+1,0,none⟩) (by show w.heap.size+1<_;omega)).trans b0;have q1:=(D.cell (p:=⟨w.heap.size+1,1,none⟩) (by show w.heap.size+1<_;omega)).trans b1;have q2:=(D.cell (p:=⟨w.heap.size+1,2,none⟩) (by show w.heap.size+1<_;omega)).trans b2;have q3:=(D.cell (p:=⟨w.heap.size+1,3,none⟩) (by show w.heap.size+1<_;omega)).trans b3;have r0:=(D.frozen (p:=⟨w.heap.size+1,0,none⟩) (by show w.heap.size+1<_;omega)).trans f0;have r1:=(D.frozen (p:=⟨w.heap.size+1,1,none⟩) (by show w.heap.size+1<_;omega)).trans f1;have r2:=(D.frozen (p:=⟨w.heap.size+1,2,none⟩) (by show w.heap.size+1<_;omega)).trans f2;have r3:=(D.frozen (p:=⟨w.heap.size+1,3,none⟩) (by show w.heap.size+1<_;omega)).trans f3))
    refine bodyPost_ret (v:=.tuple #[.agg #[.int .i64 f,.int .i64 ps.length,.int .i32 0,.slice A ps.length c],.bool true]) (by simp[results,results312,go_sem,World.cell?_alloc_lt,g1,q0,q1,q2,q3]) rfl ?_;refine J (A,ps.length,c) _ ?_ ?_
    ·exact sg_box ak ap aB (λad e=>⟨by have:=(ao ad e).1;omega,(ao ad e).2⟩) _ _ _ _ _
    ·exact((((((Ze (Ze y)).trans (D.mono (by omega))).setCell (by simp) _).setCell (by simp) _).setCell (by simp) _).setCell (by simp) _).alloc (by simp;omega) _
