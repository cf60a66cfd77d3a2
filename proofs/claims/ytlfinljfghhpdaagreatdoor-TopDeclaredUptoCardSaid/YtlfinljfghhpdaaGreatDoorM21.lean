/- Lemmas for a statement on the tops; conditions: as each says. -/
import Derived.Test.YtlfinljfghhpdaaGreatDoorM3
set_option linter.unusedVariables false
set_option linter.unusedSimpArgs false
set_option maxRecDepth 100000
set_option maxHeartbeats 4000000
namespace Go.Proofs.YtlfinljfghhpdaaGreatDoor
open Go
abbrev Pr:=Nat×Int
abbrev Rw:=Nat×Nat×Int×Option (List Int)
def ZaL (r:Rw)(i:Nat):Int:=match r.2.2.2 with
 |none=>r.2.2.1+i
 |some l=>l.getD i 0
def prs (r:Rw):List Pr:=(List.range r.2.1).map fun i=>(r.1+i,ZaL r i)
def ZaC (r:Rw):Prop:=1≤r.2.1∧r.1+r.2.1≤1048576∧match r.2.2.2 with
 |none=>0≤r.2.2.1∧r.2.2.1+r.2.1≤1114112
 |some l=>r.2.2.1=0∧l.length=r.2.1∧∀p∈l,0≤p∧p≤1114111
def Srt (l:List Pr):Prop:=l.Pairwise fun a b=>a.1<b.1
theorem ZbB {r:Rw} {x:Pr}:x∈prs r↔r.1≤x.1∧x.1<r.1+r.2.1∧x.2=ZaL r (x.1 - r.1):=by
 unfold prs;rw [List.mem_map];constructor
 · rintro⟨i,hi,rfl⟩;rw [List.mem_range] at hi;refine⟨by simp,by simp;omega,by simp⟩
 · rintro⟨h1,h2,h3⟩;refine⟨x.1 - r.1,List.mem_range.2 (by omega),?_⟩;rw [←h3,show r.1+(x.1 - r.1)=x.1 by omega]
theorem ZfY (r:Rw):(prs r).length=r.2.1:=by simp [prs]
theorem ZmC (r:Rw):Srt (prs r):=by
 unfold Srt prs;rw [List.pairwise_map];exact List.pairwise_lt_range.imp fun h=>by simp;omega
theorem Zit:∀(l m:List Pr),Srt l→Srt m→(∀x,x∈l↔x∈m)→l=m
 |[],[],_,_,_=>rfl
 |[],b::m,_,_,h=>by have:=(h b).2 (by simp);simp at this
 |a::l,[],_,_,h=>by have:=(h a).1 (by simp);simp at this
 |a::l,b::m,hl,hm,h=>by
  have hl':=List.pairwise_cons.1 hl;have hm':=List.pairwise_cons.1 hm;have hab:a=b:=by
   rcases List.mem_cons.1 ((h a).1 (by simp)) with e|e
   · exact e
   · rcases List.mem_cons.1 ((h b).2 (by simp)) with e2|e2
     · exact e2.symm
     · have:=hm'.1 a e;have:=hl'.1 b e2;omega
  subst hab;rw [Zit l m hl'.2 hm'.2 fun x=> ?_];constructor
  · intro hx;rcases List.mem_cons.1 ((h x).1 (by simp [hx])) with e|e
    · subst e;have:=hl'.1 x hx;omega
    · exact e
  · intro hx;rcases List.mem_cons.1 ((h x).2 (by simp [hx])) with e|e
    · subst e;have:=hm'.1 x hx;omega
    · exact e
def Zdd (rs:List Rw):Prop:=rs.Pairwise (fun a b=>a.1+a.2.1≤b.1)∧∀r∈rs,ZaC r
theorem ZeK:∀(rs:List Rw),rs.Pairwise (fun a b=>a.1+a.2.1≤b.1)→Srt (rs.flatMap prs)
 |[],_=>by simp [Srt]
 |r::rs,h=>by
  have h':=List.pairwise_cons.1 h;rw [List.flatMap_cons];unfold Srt;rw [List.pairwise_append];refine⟨ZmC r,ZeK rs h'.2,fun a ha b hb=> ?_⟩;obtain⟨q,hq,hbq⟩:=List.mem_flatMap.1 hb;have h1:=h'.1 q hq;have h2:=(ZbB.1 ha).2.1;have h3:=(ZbB.1 hbq).1;omega
def ZaT:List Pr→Pr→List Pr
 |[],p=>[p]
 |x::l,p=>if p.1<x.1 then p::x::l else x::ZaT l p
theorem Zd2 {p y:Pr}:∀{l:List Pr},y∈ZaT l p↔y=p∨y∈l
 |[]=>by simp [ZaT]
 |x::l=>by
  unfold ZaT;split
  · simp
  · rw [List.mem_cons,Zd2 (l:=l),List.mem_cons];constructor
    · rintro(h|h|h)<;>simp [h]
    · rintro(h|h|h)<;>simp [h]
theorem Ziu {p:Pr}:∀{l:List Pr},Srt l→(∀x∈l,x.1≠p.1)→Srt (ZaT l p)
 |[],_,_=>by simp [ZaT,Srt]
 |x::l,h,hn=>by
  have h':=List.pairwise_cons.1 h;unfold ZaT;split
  · rename_i hlt
    refine List.pairwise_cons.2 ⟨fun y hy=> ?_,h⟩;rcases List.mem_cons.1 hy with rfl|hy
    · exact hlt
    · have:=h'.1 y hy;omega
  · rename_i hlt
    refine List.pairwise_cons.2 ⟨fun y hy=> ?_,Ziu h'.2 fun z hz=>hn z (by simp [hz])⟩;rcases Zd2.1 hy with rfl|hy
    · have:=hn x (by simp);omega
    · exact h'.1 y hy
def Zae (l:List Pr)(c:Nat):Bool:=l.any fun x=>x.1==c
theorem Zey {l:List Pr} {c:Nat}:Zae l c=true↔∃x∈l,x.1=c:=by simp [Zae,List.any_eq_true]
def joinL (l more:List Pr):Option (List Pr):=if more.any (fun m=>Zae l m.1)=true then none else some (more.foldl ZaT l)
def ZdA (l other:List Pr):List Pr:=other.foldl (fun out p=>if Zae l p.1=true then out else ZaT out p) l
theorem Zk1:∀(more l:List Pr),Srt l→Srt more→(∀m∈more,∀x∈l,x.1≠m.1)→Srt (more.foldl ZaT l)∧∀y,y∈more.foldl ZaT l↔y∈l∨y∈more
 |[],l,hl,_,_=>by simpa using hl
 |m::more,l,hl,hm,hd=>by
  have hm':=List.pairwise_cons.1 hm;obtain⟨a,b⟩:=Zk1 more (ZaT l m) (Ziu hl (hd m (by simp))) hm'.2 fun q hq x hx=>by
   rcases Zd2.1 hx with rfl|hx
   · have:=hm'.1 q hq;omega
   · exact hd q (by simp [hq]) x hx
  rw [List.foldl_cons];refine⟨a,fun y=> ?_⟩;rw [b,Zd2,List.mem_cons];constructor
  · rintro((h|h)|h)<;>simp [h]
  · rintro(h|h|h)<;>simp [h]
theorem Zho (l:List Pr):∀(more out:List Pr),Srt out→Srt more→(∀m∈more,Zae l m.1=false→∀x∈out,x.1≠m.1)→
 Srt (more.foldl (fun out p=>if Zae l p.1=true then out else ZaT out p) out)∧∀y,y∈more.foldl (fun out p=>if Zae l p.1=true then out else ZaT out p) out↔y∈out∨(y∈more∧Zae l y.1=false)
 |[],out,ho,_,_=>by simpa using ho
 |m::more,out,ho,hm,hd=>by
  have hm':=List.pairwise_cons.1 hm;rw [List.foldl_cons];cases hc:Zae l m.1 with
  |true=>
   simp only [if_true];obtain⟨a,b⟩:=Zho l more out ho hm'.2 fun q hq=>hd q (by simp [hq]);refine⟨a,fun y=> ?_⟩;rw [b,List.mem_cons];constructor
   · rintro(h|⟨h,h2⟩)
     · exact .inl h
     · exact .inr ⟨.inr h,h2⟩
   · rintro(h|⟨h|h,h2⟩)
     · exact .inl h
     · subst h;rw [hc] at h2;cases h2
     · exact .inr ⟨h,h2⟩
  |false=>
   simp only [Bool.false_eq_true,if_false];obtain⟨a,b⟩:=Zho l more (ZaT out m) (Ziu ho (hd m (by simp) hc)) hm'.2 fun q hq hq2 x hx=>by
    rcases Zd2.1 hx with rfl|hx
    · have:=hm'.1 q hq;omega
    · exact hd q (by simp [hq]) hq2 x hx
   refine⟨a,fun y=> ?_⟩;rw [b,Zd2,List.mem_cons];constructor
   · rintro((h|h)|⟨h,h2⟩)
     · subst h;exact .inr ⟨.inl rfl,hc⟩
     · exact .inl h
     · exact .inr ⟨.inr h,h2⟩
   · rintro(h|⟨h|h,h2⟩)
     · exact .inl (.inr h)
     · exact .inl (.inl h)
     · exact .inr ⟨h,h2⟩
theorem ZsU (l m:List Pr)(hl:Srt l)(hm:Srt m):Srt (ZdA l m)∧∀y,y∈ZdA l m↔y∈l∨(y∈m∧Zae l y.1=false):=
 Zho l m l hl hm fun q hq h x hx e=>by
  have:=Zey.2 ⟨x,hx,e⟩;rw [h] at this;cases this
theorem ZsV {l m r:List Pr} (hl:Srt l)(hm:Srt m)(hr:Srt r)(h:∀y,y∈r↔y∈l∨(y∈m∧Zae l y.1=false)):r=ZdA l m:=by
 obtain⟨a,b⟩:=ZsU l m hl hm;exact Zit _ _ hr a fun x=>by rw [h,b]
abbrev Pce:=Int×Int×Int×ByteArray×Option (List Int)
def Zbt (p:Pce):Prop:=(match p.2.2.2.2 with
 |some ps=>Good p.2.2.2.1 ps
 |none=>∃n,Zbr p.2.2.2.1 n)∧(-9223372036854775808≤p.1∧p.1<9223372036854775808)∧(-2147483648≤p.2.1∧p.2.1<2147483648)∧(-9223372036854775808≤p.2.2.1∧p.2.2.1<9223372036854775808)
def rowOf (p:Pce):Option Rw:=
 if p.2.2.2.1.size≠0 then
  match p.2.2.2.2 with
  |some ps=>if 0≤p.1∧p.1+ps.length≤1048576 then some (p.1.toNat,ps.length,0,some ps) else none
  |none=>none
 else if 0≤p.1∧1≤p.2.2.1∧p.1+p.2.2.1≤1048576∧Ze p.2.1=true∧Ze (p.2.1+p.2.2.1 - 1)=true∧(p.2.1<55296↔p.2.1+p.2.2.1 - 1<55296) then some (p.1.toNat,p.2.2.1.toNat,p.2.1,none)
 else none
theorem ZeL {p:Int} (h:Ze p=true):0≤p∧p≤1114111:=by
 unfold Ze at h;simp only [decide_eq_true_eq] at h;omega
theorem Zld {s:ByteArray} {ps:List Int} (h:Good s ps)(hs:s.size≠0):1≤ps.length:=by
 cases ps with
 |nil=>exact absurd h.size hs
 |cons _ _=>simp
theorem ZmM {p:Pce} {r:Rw} (hp:Zbt p)(h:rowOf p=some r):ZaC r:=by
 unfold rowOf at h;split at h
 · rename_i hs
   obtain⟨hg,_⟩:=hp;generalize p.2.2.2.2=q at*;cases q with
   |none=>cases h
   |some ps=>
    simp only at h hg;split at h
    · injection h with h
      subst h;have h1:=Zld hg hs;refine⟨h1,by simp;omega,rfl,rfl,fun x hx=>ZeL (hg.2 x hx)⟩
    · cases h
 · split at h
   · rename_i hc
     injection h with h
     subst h;have h1:=ZeL hc.2.2.2.1;have h2:=ZeL hc.2.2.2.2.1;refine⟨by simp;omega,by simp;omega,by simp;omega,by simp;omega⟩
   · cases h
def ovl (acc:List Rw)(r:Rw):Bool:=acc.any fun q=>decide (q.1<r.1+r.2.1)&&decide (r.1<q.1+q.2.1)
def Zak:List Rw→List Pce→Nat→List Rw⊕Nat
 |acc,[],_=> .inl acc
 |acc,p::l,i=>match rowOf p with
  |none=> .inr i
  |some r=>if ovl acc r=true then .inr i else Zak (acc++[r]) l (i+1)
def Za1:List Pr→List Pce→Nat→List Pr⊕Nat
 |acc,[],_=> .inl acc
 |acc,p::l,i=>match rowOf p with
  |none=> .inr i
  |some r=>match joinL acc (prs r) with
   |none=> .inr i
   |some a=>Za1 a l (i+1)
def Zb6 (a b:Rw):Prop:=a.1+a.2.1≤b.1∨b.1+b.2.1≤a.1
def Told (rs:List Rw)(L:List Pr):Prop:=rs.Pairwise Zb6∧(∀r∈rs,ZaC r)∧Srt L∧∀x,x∈L↔∃r∈rs,x∈prs r
theorem Zma {rs:List Rw} {L:List Pr} {r:Rw} (h:Told rs L)(hr:ZaC r):ovl rs r=(prs r).any fun m=>Zae L m.1:=by
 obtain⟨_,hok,_,hm⟩:=h;have h1:=hr.1;rw [Bool.eq_iff_iff,ovl,List.any_eq_true,List.any_eq_true];constructor
 · rintro⟨q,hq,hc⟩;simp only [Bool.and_eq_true,decide_eq_true_eq] at hc;have h2:=(hok q hq).1;have hx:max q.1 r.1<r.1+r.2.1∧max q.1 r.1<q.1+q.2.1:=by omega
   refine⟨(max q.1 r.1,ZaL r (max q.1 r.1 - r.1)),ZbB.2 ⟨by simp;omega,by simp;omega,rfl⟩,Zey.2 ⟨(max q.1 r.1,ZaL q (max q.1 r.1 - q.1)),(hm _).2 ⟨q,hq,ZbB.2 ⟨by simp;omega,by simp;omega,rfl⟩⟩,rfl⟩⟩
 · rintro⟨x,hx,hc⟩;obtain⟨y,hy,e⟩:=Zey.1 hc;obtain⟨q,hq,hyq⟩:=(hm y).1 hy;have a:=ZbB.1 hx;have b:=ZbB.1 hyq;refine⟨q,hq,?_⟩;simp only [Bool.and_eq_true,decide_eq_true_eq];omega
theorem Zuo {rs:List Rw} {L:List Pr} {r:Rw} (h:Told rs L)(hr:ZaC r)(hn:ovl rs r=false):Told (rs++[r]) ((prs r).foldl ZaT L):=by
 have ho:=Zma h hr;obtain⟨hp,hok,hs,hm⟩:=h;have hd:∀m∈prs r,∀x∈L,x.1≠m.1:=fun m hm' x hx e=>by
  rw [hn] at ho;have:=List.any_eq_false.1 ho.symm m hm';exact this (Zey.2 ⟨x,hx,e⟩)
 obtain⟨a,b⟩:=Zk1 (prs r) L hs (ZmC r) hd;refine⟨?_,?_,a,fun x=> ?_⟩
 · rw [List.pairwise_append];refine⟨hp,by simp,fun q hq s hs'=> ?_⟩;simp only [List.mem_singleton] at hs';subst hs';have:=List.any_eq_false.1 hn q hq;simp only [Bool.and_eq_true,decide_eq_true_eq,not_and] at this;unfold Zb6;omega
 · intro q hq;rcases List.mem_append.1 hq with h|h
   · exact hok q h
   · simp only [List.mem_singleton] at h;subst h;exact hr
 · rw [b,hm];constructor
   · rintro(⟨q,hq,h⟩|h)
     · exact⟨q,by simp [hq],h⟩
     · exact⟨r,by simp,h⟩
   · rintro⟨q,hq,h⟩;rcases List.mem_append.1 hq with h2|h2
     · exact .inl ⟨q,h2,h⟩
     · simp only [List.mem_singleton] at h2;subst h2;exact .inr h
theorem ZlR:∀(l:List Pce) (rs:List Rw) (L:List Pr) (i:Nat),(∀p∈l,Zbt p)→Told rs L→(∃rs' M,Zak rs l i= .inl rs'∧Za1 L l i= .inl M∧Told rs' M)∨∃k,Zak rs l i= .inr k∧Za1 L l i= .inr k
 |[],rs,L,i,_,h=> .inl ⟨rs,L,rfl,rfl,h⟩
 |p::l,rs,L,i,hp,h=>by
  simp only [Zak,Za1];cases hr:rowOf p with
  |none=>exact .inr ⟨i,rfl,rfl⟩
  |some r=>
   have hok:=ZmM (hp p (by simp)) hr;have ho:=Zma h hok;simp only [joinL];rw [←ho];cases hv:ovl rs r with
   |true=>exact .inr ⟨i,rfl,rfl⟩
   |false=>
    simp only [Bool.false_eq_true,if_false];exact ZlR l (rs++[r]) _ (i+1) (fun q hq=>hp q (by simp [hq])) (Zuo h hok hv)
theorem Zum:Told [] []:=⟨by simp,by simp,by simp [Srt],by simp⟩
theorem Zun {rs rs':List Rw} {L:List Pr} (h:Told rs L)(hp:rs'.Perm rs)(hs:rs'.Pairwise fun a b=>a.1≤b.1):Zdd rs'∧rs'.flatMap prs=L:=by
 obtain⟨ha,hok,hL,hm⟩:=h;have hok':∀r∈rs',ZaC r:=fun r hr=>hok r (hp.mem_iff.1 hr);have ha':rs'.Pairwise Zb6:=by
  refine(hp.pairwise_iff ?_).2 ha;intro a b h;unfold Zb6 at*;omega
 have hb:rs'.Pairwise fun a b=>a.1+a.2.1≤b.1:=by
  have hboth:=hs.and ha';refine hboth.imp_of_mem ?_;intro a b hma hmb h;obtain⟨h1,h2⟩:=h;have:=(hok' b hmb).1;unfold Zb6 at h2;omega
 refine⟨⟨hb,hok'⟩,Zit _ _ (ZeK rs' hb) hL fun x=> ?_⟩;rw [hm,List.mem_flatMap];constructor
 · rintro⟨r,hr,h⟩;exact⟨r,hp.mem_iff.1 hr,h⟩
 · rintro⟨r,hr,h⟩;exact⟨r,hp.mem_iff.2 hr,h⟩
def Za5:List Int:=[9472,9474,9484,9488,9492,9496,9500,9508,9516,9524,9532,9600,9604,9608,9612,9616,9617,9618,9619,8992,9632,8729,8730,8776,8804,8805,160,8993,176,178,183,247,9552,9553,9554,1105,9555,9556,9557,9558,9559,9560,9561,9562,9563,9564,9565,9566,9567,9568,9569,1025,9570,9571,9572,9573,9574,9575,9576,9577,9578,9579,9580,169,1102,1072,1073,1094,1076,1077,1092,1075,1093,1080,1081,1082,1083,1084,1085,1086,1087,1103,1088,1089,1090,1091,1078,1074,1100,1099,1079,1096,1101,1097,1095,1098,1070,1040,1041,1062,1044,1045,1060,1043,1061,1048,1049,1050,1051,1052,1053,1054,1055,1071,1056,1057,1058,1059,1046,1042,1068,1067,1047,1064,1069,1065,1063,1066]
def Zbd:List Int:=[9617,9618,9619,9474,9508,9569,9570,9558,9557,9571,9553,9559,9565,9564,9563,9488,9492,9524,9516,9500,9472,9532,9566,9567,9562,9556,9577,9574,9568,9552,9580,9575,9576,9572,9573,9561,9560,9554,9555,9579,9578,9496,9484,9608,9604,9612,9616,9600]
def Zbi:List Int:=[1025,1105,1028,1108,1031,1111,1038,1118,176,8729,183,8730,8470,164,9632,160]
def ukrL:List (Nat×Int):=[(164,1108),(166,1110),(167,1111),(173,1169),(180,1028),(182,1030),(183,1031),(189,1168)]
def ZJ (c n:Nat):Int:=
 if c=0∨n<128 then n
 else if c=3 then
  if n<176 then(1040+n - 128:Int) else if n<224 then Zbd.getD (n - 176) 0 else if n<240 then(1088+n - 224:Int) else Zbi.getD (n - 240) 0
 else if c=2 then((ukrL.find? fun x=>x.1==n).map (·.2)).getD (Za5.getD (n - 128) 0)
 else Za5.getD (n - 128) 0
def Zi (c:Nat):List Pr:=(List.range 256).map fun n=>(n,ZJ c n)
def ZbO (c:UInt8):Int:=if 48≤c∧c≤57 then c.toNat - 48 else if 65≤c∧c≤70 then c.toNat - 55 else -1
def hexV (l:List UInt8):Int:=l.foldl (fun p c=>p*16+ZbO c) 0
def ZV:List UInt8→List Int
 |a::b::c::d::_::r=>hexV [a,b,c,d]::ZV r
 |_=>[]
def ZaQ:List UInt8→Bool
 |a::b::c::d::_::r=>([a,b,c,d].all fun x=>decide (0≤ZbO x))&&Ze (hexV [a,b,c,d])&&ZaQ r
 |[]=>true
 |_=>false
def koiB:List UInt8:=[50,53,48,48,32,50,53,48,50,32,50,53,48,67,32,50,53,49,48,32,50,53,49,52,32,50,53,49,56,32,50,53,49,67,32,50,53,50,52,32,50,53,50,67,32,50,53,51,52,32,50,53,51,67,32,50,53,56,48,32,50,53,56,52,32,50,53,56,56,32,50,53,56,67,32,50,53,57,48,32,50,53,57,49,32,50,53,57,50,32,50,53,57,51,32,50,51,50,48,32,50,53,65,48,32,50,50,49,57,32,50,50,49,65,32,50,50,52,56,32,50,50,54,52,32,50,50,54,53,32,48,48,65,48,32,50,51,50,49,32,48,48,66,48,32,48,48,66,50,32,48,48,66,55,32,48,48,70,55,32,50,53,53,48,32,50,53,53,49,32,50,53,53,50,32,48,52,53,49,32,50,53,53,51,32,50,53,53,52,32,50,53,53,53,32,50,53,53,54,32,50,53,53,55,32,50,53,53,56,32,50,53,53,57,32,50,53,53,65,32,50,53,53,66,32,50,53,53,67,32,50,53,53,68,32,50,53,53,69,32,50,53,53,70,32,50,53,54,48,32,50,53,54,49,32,48,52,48,49,32,50,53,54,50,32,50,53,54,51,32,50,53,54,52,32,50,53,54,53,32,50,53,54,54,32,50,53,54,55,32,50,53,54,56,32,50,53,54,57,32,50,53,54,65,32,50,53,54,66,32,50,53,54,67,32,48,48,65,57,32,48,52,52,69,32,48,52,51,48,32,48,52,51,49,32,48,52,52,54,32,48,52,51,52,32,48,52,51,53,32,48,52,52,52,32,48,52,51,51,32,48,52,52,53,32,48,52,51,56,32,48,52,51,57,32,48,52,51,65,32,48,52,51,66,32,48,52,51,67,32,48,52,51,68,32,48,52,51,69,32,48,52,51,70,32,48,52,52,70,32,48,52,52,48,32,48,52,52,49,32,48,52,52,50,32,48,52,52,51,32,48,52,51,54,32,48,52,51,50,32,48,52,52,67,32,48,52,52,66,32,48,52,51,55,32,48,52,52,56,32,48,52,52,68,32,48,52,52,57,32,48,52,52,55,32,48,52,52,65,32,48,52,50,69,32,48,52,49,48,32,48,52,49,49,32,48,52,50,54,32,48,52,49,52,32,48,52,49,53,32,48,52,50,52,32,48,52,49,51,32,48,52,50,53,32,48,52,49,56,32,48,52,49,57,32,48,52,49,65,32,48,52,49,66,32,48,52,49,67,32,48,52,49,68,32,48,52,49,69,32,48,52,49,70,32,48,52,50,70,32,48,52,50,48,32,48,52,50,49,32,48,52,50,50,32,48,52,50,51,32,48,52,49,54,32,48,52,49,50,32,48,52,50,67,32,48,52,50,66,32,48,52,49,55,32,48,52,50,56,32,48,52,50,68,32,48,52,50,57,32,48,52,50,55,32,48,52,50,65,32]
def b0B:List UInt8:=[50,53,57,49,32,50,53,57,50,32,50,53,57,51,32,50,53,48,50,32,50,53,50,52,32,50,53,54,49,32,50,53,54,50,32,50,53,53,54,32,50,53,53,53,32,50,53,54,51,32,50,53,53,49,32,50,53,53,55,32,50,53,53,68,32,50,53,53,67,32,50,53,53,66,32,50,53,49,48,32,50,53,49,52,32,50,53,51,52,32,50,53,50,67,32,50,53,49,67,32,50,53,48,48,32,50,53,51,67,32,50,53,53,69,32,50,53,53,70,32,50,53,53,65,32,50,53,53,52,32,50,53,54,57,32,50,53,54,54,32,50,53,54,48,32,50,53,53,48,32,50,53,54,67,32,50,53,54,55,32,50,53,54,56,32,50,53,54,52,32,50,53,54,53,32,50,53,53,57,32,50,53,53,56,32,50,53,53,50,32,50,53,53,51,32,50,53,54,66,32,50,53,54,65,32,50,53,49,56,32,50,53,48,67,32,50,53,56,56,32,50,53,56,52,32,50,53,56,67,32,50,53,57,48,32,50,53,56,48,32]
def f0B:List UInt8:=[48,52,48,49,32,48,52,53,49,32,48,52,48,52,32,48,52,53,52,32,48,52,48,55,32,48,52,53,55,32,48,52,48,69,32,48,52,53,69,32,48,48,66,48,32,50,50,49,57,32,48,48,66,55,32,50,50,49,65,32,50,49,49,54,32,48,48,65,52,32,50,53,65,48,32,48,48,65,48,32]
theorem koi_sg:ZV koiB=Za5∧ZaQ koiB=true:=by decide+kernel
theorem b0_sg:ZV b0B=Zbd∧ZaQ b0B=true:=by decide+kernel
theorem f0_sg:ZV f0B=Zbi∧ZaQ f0B=true:=by decide+kernel
theorem Zhn:∀l:List UInt8,5≤l.length→∃a b c d e r,l=a::b::c::d::e::r
 |[],h=>by simp at h
 |[_],h=>by simp at h
 |[_,_],h=>by simp at h
 |[_,_,_],h=>by simp at h
 |[_,_,_,_],h=>by simp at h
 |a::b::c::d::e::r,_=>⟨a,b,c,d,e,r,rfl⟩
theorem Zhx:∀(k:Nat) (l:List UInt8),5*k≤l.length→(ZV l).drop k=ZV (l.drop (5*k))∧k≤(ZV l).length
 |0,l,_=>by simp
 |k+1,l,h=>by
  obtain⟨a,b,c,d,e,r,rfl⟩:=Zhn l (by omega);obtain⟨h1,h2⟩:=Zhx k r (by simp at h;omega);refine⟨?_,by simp [ZV];exact h2⟩;rw [show 5*(k+1)=5*k+5 by omega];simp only [ZV,List.drop_succ_cons];exact h1
theorem Zhz:∀(k:Nat) (l:List UInt8),5*k≤l.length→ZaQ l=true→ZaQ (l.drop (5*k))=true
 |0,l,_,ho=>by simpa using ho
 |k+1,l,h,ho=>by
  obtain⟨a,b,c,d,e,r,rfl⟩:=Zhn l (by omega);rw [show 5*(k+1)=5*k+5 by omega];simp only [List.drop_succ_cons];unfold ZaQ at ho;simp only [Bool.and_eq_true] at ho;exact Zhz k r (by simp at h;omega) ho.2
theorem ZrR {l:List UInt8} (h:l.length<5)(ho:ZaQ l=true):l=[]:=by
 match l,h,ho with
 |[],_,_=>rfl
 |[_],_,ho=>simp [ZaQ] at ho
 |[_,_],_,ho=>simp [ZaQ] at ho
 |[_,_,_],_,ho=>simp [ZaQ] at ho
 |[_,_,_,_],_,ho=>simp [ZaQ] at ho
 |_::_::_::_::_::_,h,_=>simp at h;omega
theorem ZrQ {k:Nat} {l:List UInt8} (h:5*k≤l.length){a b c d e:UInt8} {r:List UInt8} (hd:l.drop (5*k)=a::b::c::d::e::r):
 (ZV l).take (k+1)=(ZV l).take k++[hexV [a,b,c,d]]∧l.drop (5*(k+1))=r:=by
 obtain⟨h1,h2⟩:=Zhx k l h;rw [hd,ZV] at h1;constructor
 · rw [List.take_add_one,←List.head?_drop,h1];rfl
 · rw [show 5*(k+1)=5*k+5 by omega,←List.drop_drop,hd];rfl
theorem ZcG {c:UInt8} (h:0≤ZbO c):c.toNat<128∧ZbO c<16:=by
 unfold ZbO at*;split at h
 · rename_i h1;obtain⟨h1,h2⟩:=h1;simp only [UInt8.le_iff_toNat_le] at h1 h2;split<;>first|(constructor<;>(simp at*;omega))|(rename_i hn;exact absurd ⟨by simpa [UInt8.le_iff_toNat_le] using h1,by simpa [UInt8.le_iff_toNat_le] using h2⟩ hn)
 · split at h
   · rename_i h0 h1;obtain⟨h1,h2⟩:=h1;simp only [UInt8.le_iff_toNat_le] at h1 h2;simp at h1 h2;rw [if_neg h0];split<;>(constructor<;>omega)
   · omega
theorem Zhu:∀l:List UInt8,(∀c∈l,c.toNat<128)→Zb (l.map fun c=>(c.toNat:Int))=l∧∀p∈l.map (fun c:UInt8=>(c.toNat:Int)),Ze p=true
 |[],_=>⟨rfl,by simp⟩
 |c::l,h=>by
  obtain⟨h1,h2⟩:=Zhu l (fun x hx=>h x (List.mem_cons_of_mem _ hx));have hc:=h c (List.mem_cons_self ..);constructor
  · rw [List.map_cons,ZaG,h1,ZbY (by omega) (by omega)];simp
  · intro p hp;rw [List.map_cons,List.mem_cons] at hp;rcases hp with rfl|hp
    · rw [Z1];omega
    · exact h2 p hp
def eB:ByteArray:=⟨#[]⟩
def tB (ps:List Int):ByteArray:=⟨(Zb ps).toArray⟩
def ZaU (a b n:Int):Pce:=(a,b,n,eB,some [])
def ZcX (a:Int)(ps:List Int):Pce:=(a,0,0,tB ps,some ps)
def latP:List Pce:=[ZaU 0 0 256]
def rusP:List Pce:=[ZaU 0 0 128,ZcX 128 Za5]
def ukrP:List Pce:=[ZaU 164 1108 1,ZaU 166 1110 2,ZaU 173 1169 1,ZaU 180 1028 1,ZaU 182 1030 2,ZaU 189 1168 1]
def altP:List Pce:=[ZaU 0 0 128,ZaU 128 1040 48,ZcX 176 Zbd,ZaU 224 1088 16,ZcX 240 Zbi]
theorem Zea (a b n:Int)(h:0≤a∧a<1000∧0≤b∧b<10000∧0≤n∧n<1000):Zbt (ZaU a b n)∧(ZaU a b n).2.2.2.1.size≤1000000:=
 ⟨⟨⟨rfl,by simp⟩,by simp [ZaU];omega,by simp [ZaU];omega,by simp [ZaU];omega⟩,(show eB.size≤1000000 by decide)⟩
theorem ZhR (a:Int)(ps:List Int)(h:0≤a∧a<1000)(hp:(ps.all fun p=>Ze p)=true)(hl:ps.length≤1000):Zbt (ZcX a ps)∧(ZcX a ps).2.2.2.1.size≤1000000:=by
 have hg:Good (tB ps) ps:=Zdp (fun p hp2=>List.all_eq_true.1 hp p hp2);refine⟨⟨hg,by simp [ZcX];omega,by simp [ZcX],by simp [ZcX]⟩,?_⟩;show(tB ps).size≤1000000
 rw [hg.size];have:=Zah ps;omega
theorem ZmU:(Za5.all fun p=>Ze p)=true:=by decide+kernel
theorem Zk3:(Zbd.all fun p=>Ze p)=true:=by decide+kernel
theorem Zl8:(Zbi.all fun p=>Ze p)=true:=by decide+kernel
theorem Zr2:∀p∈latP,Zbt p∧p.2.2.2.1.size≤1000000:=by
 intro p hp;simp only [latP,List.mem_cons,List.not_mem_nil,or_false] at hp;subst hp;exact Zea _ _ _ (by decide)
theorem ZtC:∀p∈rusP,Zbt p∧p.2.2.2.1.size≤1000000:=by
 intro p hp;simp only [rusP,List.mem_cons,List.not_mem_nil,or_false] at hp;rcases hp with rfl|rfl
 · exact Zea _ _ _ (by decide)
 · exact ZhR _ _ (by decide) ZmU (by decide)
theorem ZuJ:∀p∈ukrP,Zbt p∧p.2.2.2.1.size≤1000000:=by
 intro p hp;simp only [ukrP,List.mem_cons,List.not_mem_nil,or_false] at hp;rcases hp with rfl|rfl|rfl|rfl|rfl|rfl<;>exact Zea _ _ _ (by decide)
theorem Zqp:∀p∈altP,Zbt p∧p.2.2.2.1.size≤1000000:=by
 intro p hp;simp only [altP,List.mem_cons,List.not_mem_nil,or_false] at hp;rcases hp with rfl|rfl|rfl|rfl|rfl
 · exact Zea _ _ _ (by decide)
 · exact Zea _ _ _ (by decide)
 · exact ZhR _ _ (by decide) Zk3 (by decide)
 · exact Zea _ _ _ (by decide)
 · exact ZhR _ _ (by decide) Zl8 (by decide)
def madeB (l:List Pce)(L:List Pr):Bool:=match Za1 [] l 0 with
 | .inl M=>M==L
 | .inr _=>false
theorem ZfN {l:List Pce} {L:List Pr} (h:madeB l L=true):Za1 [] l 0= .inl L:=by
 unfold madeB at h;generalize Za1 [] l 0=r at*;cases r with
 |inl M=>simp only [beq_iff_eq] at h;rw [h]
 |inr _=>cases h
def ownU:List Pr:=[(164,1108),(166,1110),(167,1111),(173,1169),(180,1028),(182,1030),(183,1031),(189,1168)]
theorem Zr3:Za1 [] latP 0= .inl (Zi 0):=ZfN (by decide+kernel)
theorem ZtD:Za1 [] rusP 0= .inl (Zi 1):=ZfN (by decide+kernel)
theorem ZuK:Za1 [] ukrP 0= .inl ownU:=ZfN (by decide+kernel)
theorem Zqq:Za1 [] altP 0= .inl (Zi 3):=ZfN (by decide+kernel)
theorem ZuL:ZdA ownU (Zi 1)=Zi 2:=by
 have h:(ZdA ownU (Zi 1)==Zi 2)=true:=by decide+kernel
 exact beq_iff_eq.1 h
def Za0 (L:List Pr)(n:Nat):Option Int:=L.foldl (fun o x=>if x.1=n then some x.2 else o) none
theorem ZhQ (L:List Pr)(x:Pr)(n:Nat):Za0 (L++[x]) n=if x.1=n then some x.2 else Za0 L n:=by
 unfold Za0;rw [List.foldl_append];rfl
theorem ZlH (f:Nat→Int)(n:Nat):∀N,Za0 ((List.range N).map fun m=>(m,f m)) n=if n<N then some (f n) else none
 |0=>rfl
 |N+1=>by
  rw [List.range_succ,List.map_append,List.map_cons,List.map_nil,ZhQ,ZlH f n N];by_cases h:N=n
  · subst h;simp
  · by_cases h2:n<N
    · rw [if_neg h,if_pos h2,if_pos (by omega)]
    · rw [if_neg h,if_neg h2,if_neg (by omega)]
theorem ls_set (c n:Nat)(hn:n<256):Za0 (Zi c) n=some (ZJ c n):=by
 unfold Zi;rw [ZlH,if_pos hn]
def Zl (L:List Pr)(p:Int):Option Nat:=(L.find? fun x=>x.2==p&&decide (x.1<256)).map (·.1)
theorem Zfm (L:List Pr)(x:Pr)(p:Int):Zl (L++[x]) p=(Zl L p).or (if x.2=p∧x.1<256 then some x.1 else none):=by
 unfold Zl;rw [List.find?_append];cases h:L.find? (fun x=>x.2==p&&decide (x.1<256)) with
 |some y=>simp
 |none=>
  simp only [Option.map_none,Option.none_or,List.find?_cons,List.find?_nil];by_cases h2:x.2=p∧x.1<256
  · rw [if_pos h2];simp [h2.1,h2.2]
  · rw [if_neg h2];have:(x.2==p&&decide (x.1<256))=false:=by
     rw [Bool.and_eq_false_iff];by_cases h3:x.2=p
     · right;simp;have:=fun h4=>h2 ⟨h3,h4⟩;omega
     · left;simpa using h3
    rw [this];rfl
theorem ZgU {L:List Pr} {p:Int} {n:Nat} (h:Zl L p=some n):n<256∧(n,p)∈L:=by
 unfold Zl at h;cases h2:L.find? (fun x=>x.2==p&&decide (x.1<256)) with
 |none=>rw [h2] at h;cases h
 |some y=>
  rw [h2] at h;injection h with h
  have h3:=List.find?_some h2;have h4:=List.mem_of_find?_eq_some h2;simp only [Bool.and_eq_true,beq_iff_eq,decide_eq_true_eq] at h3;obtain⟨h5,h6⟩:=h3;subst h;exact⟨h6,by rw [←h5];exact h4⟩
theorem cd_set {c n:Nat} {p:Int} (h:Zl (Zi c) p=some n):n<256∧ZJ c n=p:=by
 obtain⟨h1,h2⟩:=ZgU h;unfold Zi at h2;obtain⟨m,hm,h3⟩:=List.mem_map.1 h2;injection h3 with h4 h5
 subst h4;exact⟨h1,h5⟩
def dcF (L:List Pr):List UInt8→Nat→List Int⊕Nat
 |[],_=> .inl []
 |x::r,i=>match Za0 L x.toNat with
  |none=> .inr i
  |some p=>match dcF L r (i+1) with
   | .inl ps=> .inl (p::ps)
   | .inr j=> .inr j
theorem Zg8 (L:List Pr):∀(bs:List UInt8) (ps:List Int) (i:Nat),bs.map (fun x=>Za0 L x.toNat)=ps.map some→dcF L bs i= .inl ps
 |[],[],_,_=>rfl
 |[],_::_,_,h=>by simp at h
 |_::_,[],_,h=>by simp at h
 |x::bs,p::ps,i,h=>by
  simp only [List.map_cons,List.cons.injEq] at h;unfold dcF;rw [h.1,Zg8 L bs ps (i+1) h.2]
theorem Zkt (L:List Pr):∀(k:Nat) (bs:List UInt8) (ps:List Int) (i:Nat) (x:UInt8),(bs.take k).map (fun x=>Za0 L x.toNat)=ps.map some→bs[k]? =some x→Za0 L x.toNat=none→dcF L bs i= .inr (i+k)
 |0,bs,ps,i,x,_,h2,h3=>by
  cases bs with
  |nil=>simp at h2
  |cons y bs=>
   simp at h2;subst h2;unfold dcF;rw [h3];rfl
 |k+1,bs,ps,i,x,h1,h2,h3=>by
  cases bs with
  |nil=>simp at h2
  |cons y bs=>
   cases ps with
   |nil=>simp at h1
   |cons p ps=>
    simp only [List.take_succ_cons,List.map_cons,List.cons.injEq] at h1;simp at h2;unfold dcF;rw [h1.1,Zkt L k bs ps (i+1) x h1.2 h2 h3];simp only [Sum.inr.injEq];omega
theorem dc_set (c:Nat)(bs:List UInt8)(i:Nat):dcF (Zi c) bs i= .inl (bs.map fun x=>ZJ c x.toNat):=
 Zg8 _ _ _ _ (by rw [List.map_map];exact List.map_congr_left fun x _=>ls_set c _ x.toNat_lt)
def ecF (f:Int→Option Nat):List Int→Nat→List UInt8⊕Nat
 |[],_=> .inl []
 |p::r,i=>match f p with
  |none=> .inr i
  |some c=>match ecF f r (i+(Lib.encodeRune p).length) with
   | .inl cs=> .inl (c.toUInt8::cs)
   | .inr j=> .inr j
theorem Zhf (f:Int→Option Nat):∀(ps:List Int) (cs:List Nat) (i:Nat),ps.map f=cs.map some→ecF f ps i= .inl (cs.map Nat.toUInt8)
 |[],[],_,_=>rfl
 |[],_::_,_,h=>by simp at h
 |_::_,[],_,h=>by simp at h
 |p::ps,c::cs,i,h=>by
  simp only [List.map_cons,List.cons.injEq] at h;unfold ecF;rw [h.1,Zhf f ps cs _ h.2];rfl
theorem Zhg (f:Int→Option Nat):∀(k:Nat) (ps:List Int) (cs:List Nat) (i:Nat) (p:Int),(ps.take k).map f=cs.map some→ps[k]? =some p→f p=none→ecF f ps i= .inr (i+(Zb (ps.take k)).length)
 |0,ps,cs,i,p,_,h2,h3=>by
  cases ps with
  |nil=>simp at h2
  |cons q ps=>
   simp at h2;subst h2;unfold ecF;rw [h3];simp [ZbE]
 |k+1,ps,cs,i,p,h1,h2,h3=>by
  cases ps with
  |nil=>simp at h2
  |cons q ps=>
   cases cs with
   |nil=>simp at h1
   |cons c cs=>
    simp only [List.take_succ_cons,List.map_cons,List.cons.injEq] at h1;simp at h2;unfold ecF;rw [h1.1,Zhg f k ps cs _ p h1.2 h2 h3,List.take_succ_cons,ZaG,List.length_append];simp only [Sum.inr.injEq];omega
theorem ec_dc (c:Nat):∀(ps:List Int) (i:Nat) (bs:List UInt8),ecF (Zl (Zi c)) ps i= .inl bs→bs.map (fun x=>ZJ c x.toNat)=ps
 |[],_,bs,h=>by simp [ecF] at h;subst h;rfl
 |p::ps,i,bs,h=>by
  unfold ecF at h;cases h1:Zl (Zi c) p with
  |none=>rw [h1] at h;cases h
  |some n=>
   rw [h1] at h;simp only at h;cases h2:ecF (Zl (Zi c)) ps (i+(Lib.encodeRune p).length) with
   |inr j=>rw [h2] at h;cases h
   |inl cs=>
    rw [h2] at h;injection h with h
    subst h;obtain⟨h3,h4⟩:=cd_set h1;rw [List.map_cons,ec_dc c ps _ cs h2];congr 1
    rw [←h4];congr 1
    simp;omega
theorem sc_all:(List.range 4).all (fun c=>(List.range 256).all fun n=>Ze (ZJ c n))=true:=by decide+kernel
theorem Zm8 {c n:Nat} (hc:c≤3)(hn:n<256):Ze (ZJ c n)=true:=
 List.all_eq_true.1 (List.all_eq_true.1 sc_all c (List.mem_range.2 (by omega))) n (List.mem_range.2 hn)
end Go.Proofs.YtlfinljfghhpdaaGreatDoor
namespace Go.Proofs.YtlfinljfghhpdaaGreatDoor
open Go Go.RowKit
abbrev Sl:=Option Addr×Nat×Nat
def slV (q:Sl):Value:= .slice q.1 q.2.1 q.2.2
def rV (x:Rw×Sl):List Value:=[.int .i64 (x.1.1:Int),.int .i64 (x.1.2.1:Int),.int .i32 x.1.2.2.1,slV x.2]
theorem ZdB (x:Rw×Sl):(rV x).length=4:=rfl
def ZI (w:World)(B:Nat)(x:Rw×Sl):Prop:=match x.1.2.2.2 with
 |none=>x.2=(none,0,0)
 |some l=>∃ad c cs fr,x.2=(some ad,l.length,c)∧l.length≤c∧ad.block<B∧ad.spot=none∧w.heap[ad.block]? =some (.cells cs 21 fr)∧∀j,j<l.length→cs[ad.off+j]? =some (.int .i32 (l.getD j 0))
theorem addr_eq {ad:Addr} (h:ad.spot=none)(j:Nat):ad.add j=⟨ad.block,ad.off+j,none⟩:=by
 unfold Addr.add;split
 · rename_i e;subst e;cases ad;simp at h;subst h;rfl
 · rfl
theorem Zip {w:World} {ad:Addr} {cs:Array Value} {T:TypeId} {fr:Nat×Nat} (hsp:ad.spot=none)(hh:w.heap[ad.block]? =some (.cells cs T fr))(j:Nat):w.cell? (ad.add j)=cs[ad.off+j]?:=by
 rw [addr_eq hsp,cell_of_row _ ad.block _ _ _ _ hh]
theorem ZI.keep {w w':World} {B:Nat} {x:Rw×Sl} (h:ZI w B x)(hk:∀k,k<B→(∃cs fr,w.heap[k]? =some (.cells cs 21 fr))→w'.heap[k]? =w.heap[k]?):ZI w' B x:=by
 unfold ZI at*;generalize x.1.2.2.2=q at*;cases q with
 |none=>exact h
 |some l=>
  obtain⟨ad,c,cs,fr,h1,h2,h3,h5,h6,h4⟩:=h;exact⟨ad,c,cs,fr,h1,h2,h3,h5,(hk _ h3 ⟨cs,fr,h6⟩).trans h6,h4⟩
theorem ZI.below {w w':World} {B:Nat} {x:Rw×Sl} (h:ZI w B x)(hb:Below B w w'):ZI w' B x:=h.keep fun k hk _=>hb.block k hk
theorem ZI.more {w:World} {B B':Nat} {x:Rw×Sl} (h:ZI w B x)(hb:B≤B'):ZI w B' x:=by
 unfold ZI at*;generalize x.1.2.2.2=q at*;cases q with
 |none=>exact h
 |some l=>
  obtain⟨ad,c,cs,fr,h1,h2,h3,h5,h6,h4⟩:=h;exact⟨ad,c,cs,fr,h1,h2,Nat.lt_of_lt_of_le h3 hb,h5,h6,h4⟩
theorem ZcO (f n:Nat)(t:Int)(v:Value)(hf:f+n≤1048576)(w:World):
 Calls Tryz.prog 303 #[.agg #[.int .i64 (f:Int),.int .i64 (n:Int),.int .i32 t,v]] w fun e w'=>e= .returned (.int .i64 ((f:Int)+n))∧Below w.heap.size w w':=by
 have e1:IntKind.i64.wrap ((f:Int)+n)=(f:Int)+n:=IntWalk.i64_in _ (by omega);go_enter Tryz.func303,Tryz.ntmps303
 go_wp2_with fail
 go_ret
 exact⟨rfl,(Below.refl _ w).alloc (Nat.le_refl _) _⟩
def Zbe (f n:Int):Bool:=decide (0≤f∧1≤n∧f+n≤1048576)
theorem Zgw (f n:Int)(hf: -9223372036854775808≤f∧f<9223372036854775808)(w:World):
 Calls Tryz.prog 380 #[.int .i64 f,.int .i64 n] w fun e w'=>e= .returned (.bool (Zbe f n))∧w=w':=by
 by_cases h1:0≤f
 · by_cases h2:f<1048576
   · have e1:IntKind.i64.wrap (1048576 - f)=1048576 - f:=IntWalk.i64_in _ (by omega);by_cases h3:1≤n
     · have hr:Zbe f n=decide (n≤1048576 - f):=by unfold Zbe;exact decide_eq_decide.2 (by omega)
       rw [hr];go_enter Tryz.func380,Tryz.ntmps380
       go_wp2_with fail
       go_ret
       exact⟨rfl,rfl⟩
     · have hr:Zbe f n=false:=by unfold Zbe;exact decide_eq_false (by omega)
       rw [hr];go_enter Tryz.func380,Tryz.ntmps380
       go_wp2_with fail
       go_ret
       exact⟨rfl,rfl⟩
   · have hr:Zbe f n=false:=by unfold Zbe;exact decide_eq_false (by omega)
     rw [hr];go_enter Tryz.func380,Tryz.ntmps380
     go_wp2_with fail
     go_ret
     exact⟨rfl,rfl⟩
 · have hr:Zbe f n=false:=by unfold Zbe;exact decide_eq_false (by omega)
   rw [hr];go_enter Tryz.func380,Tryz.ntmps380
   go_wp2_with fail
   go_ret
   exact⟨rfl,rfl⟩
theorem Zb9 (f:Int)(t:Int)(n:Int)(w:World):
 Calls Tryz.prog 232 #[.int .i64 f,.int .i32 t,.int .i64 n] w fun e w'=>e= .returned (.agg #[.int .i64 f,.int .i32 t,.int .i64 n,.string ⟨#[]⟩])∧Below w.heap.size w w':=by
 go_enter Tryz.func232,Tryz.ntmps232
 go_wp2_with fail
 refine bodyPost_ret (v:= .agg #[.int .i64 f,.int .i32 t,.int .i64 n,.string ⟨#[]⟩]) (by simp [results,Tryz.results232,go_sem]) rfl ⟨rfl,?_⟩;exact(Below.refl _ w).alloc (Nat.le_refl _) _
theorem Zgz (f:Int)(s:ByteArray)(w:World):
 Calls Tryz.prog 299 #[.int .i64 f,.string s] w fun e w'=>e= .returned (.agg #[.int .i64 f,.int .i32 0,.int .i64 0,.string s])∧Below w.heap.size w w':=by
 go_enter Tryz.func299,Tryz.ntmps299
 go_wp2_with fail
 refine bodyPost_ret (v:= .agg #[.int .i64 f,.int .i32 0,.int .i64 0,.string s]) (by simp [results,Tryz.results299,go_sem]) rfl ⟨rfl,?_⟩;exact(Below.refl _ w).alloc (Nat.le_refl _) _
theorem ZjL (x:Rw×Sl)(c:Nat)(hx:ZaC x.1)(hc:x.1.1≤c∧c<x.1.1+x.1.2.1)(w:World)(hs:ZI w w.heap.size x):
 Calls Tryz.prog 304 #[.agg (rV x).toArray,.int .i64 (c:Int)] w fun e w'=>e= .returned (.int .i32 (ZaL x.1 (c - x.1.1)))∧Below w.heap.size w w':=by
 obtain⟨⟨f,n,t,q⟩,v⟩:=x;obtain⟨h1,h2,h3⟩:=hx;simp only at h1 h2 h3 hc;have e1:IntKind.i64.wrap ((c:Int) - f)=(c:Int) - f:=IntWalk.i64_in _ (by omega);have e2:((c:Int) - f).toNat=c - f:=by omega
 have hcf:(c:Int) - f=((c - f:Nat):Int):=by omega
 cases q with
 |none=>
  obtain rfl:v=(none,0,0):=hs;simp only at h3;have e3:IntKind.i32.wrap ((c:Int) - f)=(c:Int) - f:=IntWalk.i32_in _ (by omega);have e4:IntKind.i32.wrap (t+((c:Int) - f))=t+((c:Int) - f):=IntWalk.i32_in _ (by omega);have hr:ZaL (f,n,t,none) (c - f)=t+((c - f:Nat):Int):=rfl;simp only;rw [hr];unfold rV slV;simp only;have hnn:=fun(w:World) (a:Option Addr) (n c:Nat)=>run_neq_slice_nil_any (P:=Tryz.prog) w 25 _ a n c 0 0 Tryz.underlying25;go_enter Tryz.func304,Tryz.ntmps304
  go_wp2_with fail
  go_ret
  exact⟨rfl,(Below.refl _ w).alloc (Nat.le_refl _) _⟩
 |some l=>
  obtain⟨ad,cp,cs,fr,hv,hcp,hbk,hsp,hh,hcs⟩:=hs;have hcell:∀j,j<l.length→w.cell? (ad.add j)=some (.int .i32 (l.getD j 0)):=fun j hj=>(Zip hsp hh j).trans (hcs j hj);clear hcs hh;simp only at hv hcp hcell h3;subst hv;have hl:c - f<l.length:=by omega
  have hab:(ad.add (c - f)).block<w.heap.size:=by unfold Addr.add;split<;>exact hbk
  have hce:=fun o=>(World.cell?_alloc_lt w o _ hab).trans (hcell (c - f) hl);have hr:ZaL (f,n,t,some l) (c - f)=l.getD (c - f) 0:=rfl;simp only;rw [hr];generalize l.getD (c - f) 0=z at*;clear hcell hr;unfold rV slV;simp only;have hnn:=fun(w:World) (a:Option Addr) (n c:Nat)=>run_neq_slice_nil_any (P:=Tryz.prog) w 25 _ a n c 0 0 Tryz.underlying25;go_enter Tryz.func304,Tryz.ntmps304
  go_wp2_with fail
  go_ret
  exact⟨rfl,(Below.refl _ w).alloc (Nat.le_refl _) _⟩
end Go.Proofs.YtlfinljfghhpdaaGreatDoor
