/- Lemmas for a statement on the tops; conditions: as each says. -/
import Derived.Deep.Heap
import Derived.Test.YtecandjkbbpooaaGreatDoorM2
set_option linter.unusedVariables false
set_option linter.unusedSimpArgs false
set_option maxRecDepth 100000
set_option maxHeartbeats 4000000
namespace Go.Proofs.YtecandjkbbpooaaGreatDoor
open Go
abbrev Pr:=Nat×Int
abbrev Rw:=Nat×Nat×Int×Option (List Int)
def Z4 (r:Rw)(i:Nat):Int:=match r.2.2.2 with
 |none=>r.2.2.1+i
 |some l=>l.getD i 0
def prs (r:Rw):List Pr:=(List.range r.2.1).map fun i=>(r.1+i,Z4 r i)
def ZaJ (r:Rw):Prop:=1≤r.2.1∧r.1+r.2.1≤1048576∧match r.2.2.2 with
 |none=>0≤r.2.2.1∧r.2.2.1+r.2.1≤1114112
 |some l=>r.2.2.1=0∧l.length=r.2.1∧∀p∈l,0≤p∧p≤1114111
def Srt (l:List Pr):Prop:=l.Pairwise fun a b=>a.1<b.1
theorem Zbu {r:Rw} {x:Pr}:x∈prs r↔r.1≤x.1∧x.1<r.1+r.2.1∧x.2=Z4 r (x.1 - r.1):=by
 unfold prs;rw [List.mem_map];constructor
 · rintro⟨i,hi,rfl⟩;rw [List.mem_range] at hi;refine⟨by simp,by simp;omega,by simp⟩
 · rintro⟨h1,h2,h3⟩;refine⟨x.1 - r.1,List.mem_range.2 (by omega),?_⟩;rw [←h3,show r.1+(x.1 - r.1)=x.1 by omega]
theorem Zgw (r:Rw):(prs r).length=r.2.1:=by simp [prs]
theorem Zmf (r:Rw):Srt (prs r):=by
 unfold Srt prs;rw [List.pairwise_map];exact List.pairwise_lt_range.imp fun h=>by simp;omega
theorem Ziz:∀(l m:List Pr),Srt l→Srt m→(∀x,x∈l↔x∈m)→l=m
 |[],[],_,_,_=>rfl
 |[],b::m,_,_,h=>by have:=(h b).2 (by simp);simp at this
 |a::l,[],_,_,h=>by have:=(h a).1 (by simp);simp at this
 |a::l,b::m,hl,hm,h=>by
  have hl':=List.pairwise_cons.1 hl;have hm':=List.pairwise_cons.1 hm;have hab:a=b:=by
   rcases List.mem_cons.1 ((h a).1 (by simp)) with e|e
   · exact e
   · rcases List.mem_cons.1 ((h b).2 (by simp)) with e2|e2
     · exact e2.symm
     · have:=hm'.1 a e;have:=hl'.1 b e2;omega
  subst hab;rw [Ziz l m hl'.2 hm'.2 fun x=> ?_];constructor
  · intro hx;rcases List.mem_cons.1 ((h x).1 (by simp [hx])) with e|e
    · subst e;have:=hl'.1 x hx;omega
    · exact e
  · intro hx;rcases List.mem_cons.1 ((h x).2 (by simp [hx])) with e|e
    · subst e;have:=hm'.1 x hx;omega
    · exact e
def ZdG (rs:List Rw):Prop:=rs.Pairwise (fun a b=>a.1+a.2.1≤b.1)∧∀r∈rs,ZaJ r
theorem ZeE:∀(rs:List Rw),rs.Pairwise (fun a b=>a.1+a.2.1≤b.1)→Srt (rs.flatMap prs)
 |[],_=>by simp [Srt]
 |r::rs,h=>by
  have h':=List.pairwise_cons.1 h;rw [List.flatMap_cons];unfold Srt;rw [List.pairwise_append];refine⟨Zmf r,ZeE rs h'.2,fun a ha b hb=> ?_⟩;obtain⟨q,hq,hbq⟩:=List.mem_flatMap.1 hb;have h1:=h'.1 q hq;have h2:=(Zbu.1 ha).2.1;have h3:=(Zbu.1 hbq).1;omega
def Zbh:List Pr→Pr→List Pr
 |[],p=>[p]
 |x::l,p=>if p.1<x.1 then p::x::l else x::Zbh l p
theorem Zey {p y:Pr}:∀{l:List Pr},y∈Zbh l p↔y=p∨y∈l
 |[]=>by simp [Zbh]
 |x::l=>by
  unfold Zbh;split
  · simp
  · rw [List.mem_cons,Zey (l:=l),List.mem_cons];constructor
    · rintro(h|h|h)<;>simp [h]
    · rintro(h|h|h)<;>simp [h]
theorem ZiA {p:Pr}:∀{l:List Pr},Srt l→(∀x∈l,x.1≠p.1)→Srt (Zbh l p)
 |[],_,_=>by simp [Zbh,Srt]
 |x::l,h,hn=>by
  have h':=List.pairwise_cons.1 h;unfold Zbh;split
  · rename_i hlt
    refine List.pairwise_cons.2 ⟨fun y hy=> ?_,h⟩;rcases List.mem_cons.1 hy with rfl|hy
    · exact hlt
    · have:=h'.1 y hy;omega
  · rename_i hlt
    refine List.pairwise_cons.2 ⟨fun y hy=> ?_,ZiA h'.2 fun z hz=>hn z (by simp [hz])⟩;rcases Zey.1 hy with rfl|hy
    · have:=hn x (by simp);omega
    · exact h'.1 y hy
def Zan (l:List Pr)(c:Nat):Bool:=l.any fun x=>x.1==c
theorem Zfd {l:List Pr} {c:Nat}:Zan l c=true↔∃x∈l,x.1=c:=by simp [Zan,List.any_eq_true]
def joinL (l more:List Pr):Option (List Pr):=if more.any (fun m=>Zan l m.1)=true then none else some (more.foldl Zbh l)
def Zdm (l other:List Pr):List Pr:=other.foldl (fun out p=>if Zan l p.1=true then out else Zbh out p) l
theorem ZkX:∀(more l:List Pr),Srt l→Srt more→(∀m∈more,∀x∈l,x.1≠m.1)→Srt (more.foldl Zbh l)∧∀y,y∈more.foldl Zbh l↔y∈l∨y∈more
 |[],l,hl,_,_=>by simpa using hl
 |m::more,l,hl,hm,hd=>by
  have hm':=List.pairwise_cons.1 hm;obtain⟨a,b⟩:=ZkX more (Zbh l m) (ZiA hl (hd m (by simp))) hm'.2 fun q hq x hx=>by
   rcases Zey.1 hx with rfl|hx
   · have:=hm'.1 q hq;omega
   · exact hd q (by simp [hq]) x hx
  rw [List.foldl_cons];refine⟨a,fun y=> ?_⟩;rw [b,Zey,List.mem_cons];constructor
  · rintro((h|h)|h)<;>simp [h]
  · rintro(h|h|h)<;>simp [h]
theorem ZhL (l:List Pr):∀(more out:List Pr),Srt out→Srt more→(∀m∈more,Zan l m.1=false→∀x∈out,x.1≠m.1)→
 Srt (more.foldl (fun out p=>if Zan l p.1=true then out else Zbh out p) out)∧∀y,y∈more.foldl (fun out p=>if Zan l p.1=true then out else Zbh out p) out↔y∈out∨(y∈more∧Zan l y.1=false)
 |[],out,ho,_,_=>by simpa using ho
 |m::more,out,ho,hm,hd=>by
  have hm':=List.pairwise_cons.1 hm;rw [List.foldl_cons];cases hc:Zan l m.1 with
  |true=>
   simp only [if_true];obtain⟨a,b⟩:=ZhL l more out ho hm'.2 fun q hq=>hd q (by simp [hq]);refine⟨a,fun y=> ?_⟩;rw [b,List.mem_cons];constructor
   · rintro(h|⟨h,h2⟩)
     · exact .inl h
     · exact .inr ⟨.inr h,h2⟩
   · rintro(h|⟨h|h,h2⟩)
     · exact .inl h
     · subst h;rw [hc] at h2;cases h2
     · exact .inr ⟨h,h2⟩
  |false=>
   simp only [Bool.false_eq_true,if_false];obtain⟨a,b⟩:=ZhL l more (Zbh out m) (ZiA ho (hd m (by simp) hc)) hm'.2 fun q hq hq2 x hx=>by
    rcases Zey.1 hx with rfl|hx
    · have:=hm'.1 q hq;omega
    · exact hd q (by simp [hq]) hq2 x hx
   refine⟨a,fun y=> ?_⟩;rw [b,Zey,List.mem_cons];constructor
   · rintro((h|h)|⟨h,h2⟩)
     · subst h;exact .inr ⟨.inl rfl,hc⟩
     · exact .inl h
     · exact .inr ⟨.inr h,h2⟩
   · rintro(h|⟨h|h,h2⟩)
     · exact .inl (.inr h)
     · exact .inl (.inl h)
     · exact .inr ⟨h,h2⟩
theorem Zsi (l m:List Pr)(hl:Srt l)(hm:Srt m):Srt (Zdm l m)∧∀y,y∈Zdm l m↔y∈l∨(y∈m∧Zan l y.1=false):=
 ZhL l m l hl hm fun q hq h x hx e=>by
  have:=Zfd.2 ⟨x,hx,e⟩;rw [h] at this;cases this
theorem Zsj {l m r:List Pr} (hl:Srt l)(hm:Srt m)(hr:Srt r)(h:∀y,y∈r↔y∈l∨(y∈m∧Zan l y.1=false)):r=Zdm l m:=by
 obtain⟨a,b⟩:=Zsi l m hl hm;exact Ziz _ _ hr a fun x=>by rw [h,b]
abbrev Pce:=Int×Int×Int×ByteArray×Option (List Int)
def Za6 (p:Pce):Prop:=(match p.2.2.2.2 with
 |some ps=>Good p.2.2.2.1 ps
 |none=>∃n,Za3 p.2.2.2.1 n)∧(-9223372036854775808≤p.1∧p.1<9223372036854775808)∧(-2147483648≤p.2.1∧p.2.1<2147483648)∧(-9223372036854775808≤p.2.2.1∧p.2.2.1<9223372036854775808)
def rowOf (p:Pce):Option Rw:=
 if p.2.2.2.1.size≠0 then
  match p.2.2.2.2 with
  |some ps=>if 0≤p.1∧p.1+ps.length≤1048576 then some (p.1.toNat,ps.length,0,some ps) else none
  |none=>none
 else if 0≤p.1∧1≤p.2.2.1∧p.1+p.2.2.1≤1048576∧Zv p.2.1=true∧Zv (p.2.1+p.2.2.1 - 1)=true∧(p.2.1<55296↔p.2.1+p.2.2.1 - 1<55296) then some (p.1.toNat,p.2.2.1.toNat,p.2.1,none)
 else none
theorem Zfp {p:Int} (h:Zv p=true):0≤p∧p≤1114111:=by
 unfold Zv at h;simp only [decide_eq_true_eq] at h;omega
theorem Zk4 {s:ByteArray} {ps:List Int} (h:Good s ps)(hs:s.size≠0):1≤ps.length:=by
 cases ps with
 |nil=>exact absurd h.size hs
 |cons _ _=>simp
theorem Zmt {p:Pce} {r:Rw} (hp:Za6 p)(h:rowOf p=some r):ZaJ r:=by
 unfold rowOf at h;split at h
 · rename_i hs
   obtain⟨hg,_⟩:=hp;generalize p.2.2.2.2=q at*;cases q with
   |none=>cases h
   |some ps=>
    simp only at h hg;split at h
    · injection h with h
      subst h;have h1:=Zk4 hg hs;refine⟨h1,by simp;omega,rfl,rfl,fun x hx=>Zfp (hg.2 x hx)⟩
    · cases h
 · split at h
   · rename_i hc
     injection h with h
     subst h;have h1:=Zfp hc.2.2.2.1;have h2:=Zfp hc.2.2.2.2.1;refine⟨by simp;omega,by simp;omega,by simp;omega,by simp;omega⟩
   · cases h
def ovl (acc:List Rw)(r:Rw):Bool:=acc.any fun q=>decide (q.1<r.1+r.2.1)&&decide (r.1<q.1+q.2.1)
def Zau:List Rw→List Pce→Nat→List Rw⊕Nat
 |acc,[],_=> .inl acc
 |acc,p::l,i=>match rowOf p with
  |none=> .inr i
  |some r=>if ovl acc r=true then .inr i else Zau (acc++[r]) l (i+1)
def ZaR:List Pr→List Pce→Nat→List Pr⊕Nat
 |acc,[],_=> .inl acc
 |acc,p::l,i=>match rowOf p with
  |none=> .inr i
  |some r=>match joinL acc (prs r) with
   |none=> .inr i
   |some a=>ZaR a l (i+1)
def Zcm (a b:Rw):Prop:=a.1+a.2.1≤b.1∨b.1+b.2.1≤a.1
def Told (rs:List Rw)(L:List Pr):Prop:=rs.Pairwise Zcm∧(∀r∈rs,ZaJ r)∧Srt L∧∀x,x∈L↔∃r∈rs,x∈prs r
theorem ZlG {rs:List Rw} {L:List Pr} {r:Rw} (h:Told rs L)(hr:ZaJ r):ovl rs r=(prs r).any fun m=>Zan L m.1:=by
 obtain⟨_,hok,_,hm⟩:=h;have h1:=hr.1;rw [Bool.eq_iff_iff,ovl,List.any_eq_true,List.any_eq_true];constructor
 · rintro⟨q,hq,hc⟩;simp only [Bool.and_eq_true,decide_eq_true_eq] at hc;have h2:=(hok q hq).1;have hx:max q.1 r.1<r.1+r.2.1∧max q.1 r.1<q.1+q.2.1:=by omega
   refine⟨(max q.1 r.1,Z4 r (max q.1 r.1 - r.1)),Zbu.2 ⟨by simp;omega,by simp;omega,rfl⟩,Zfd.2 ⟨(max q.1 r.1,Z4 q (max q.1 r.1 - q.1)),(hm _).2 ⟨q,hq,Zbu.2 ⟨by simp;omega,by simp;omega,rfl⟩⟩,rfl⟩⟩
 · rintro⟨x,hx,hc⟩;obtain⟨y,hy,e⟩:=Zfd.1 hc;obtain⟨q,hq,hyq⟩:=(hm y).1 hy;have a:=Zbu.1 hx;have b:=Zbu.1 hyq;refine⟨q,hq,?_⟩;simp only [Bool.and_eq_true,decide_eq_true_eq];omega
theorem ZtM {rs:List Rw} {L:List Pr} {r:Rw} (h:Told rs L)(hr:ZaJ r)(hn:ovl rs r=false):Told (rs++[r]) ((prs r).foldl Zbh L):=by
 have ho:=ZlG h hr;obtain⟨hp,hok,hs,hm⟩:=h;have hd:∀m∈prs r,∀x∈L,x.1≠m.1:=fun m hm' x hx e=>by
  rw [hn] at ho;have:=List.any_eq_false.1 ho.symm m hm';exact this (Zfd.2 ⟨x,hx,e⟩)
 obtain⟨a,b⟩:=ZkX (prs r) L hs (Zmf r) hd;refine⟨?_,?_,a,fun x=> ?_⟩
 · rw [List.pairwise_append];refine⟨hp,by simp,fun q hq s hs'=> ?_⟩;simp only [List.mem_singleton] at hs';subst hs';have:=List.any_eq_false.1 hn q hq;simp only [Bool.and_eq_true,decide_eq_true_eq,not_and] at this;unfold Zcm;omega
 · intro q hq;rcases List.mem_append.1 hq with h|h
   · exact hok q h
   · simp only [List.mem_singleton] at h;subst h;exact hr
 · rw [b,hm];constructor
   · rintro(⟨q,hq,h⟩|h)
     · exact⟨q,by simp [hq],h⟩
     · exact⟨r,by simp,h⟩
   · rintro⟨q,hq,h⟩;rcases List.mem_append.1 hq with h2|h2
     · exact .inl ⟨q,h2,h⟩
     · simp only [List.mem_singleton] at h2;subst h2;exact .inr h
theorem Zlu:∀(l:List Pce) (rs:List Rw) (L:List Pr) (i:Nat),(∀p∈l,Za6 p)→Told rs L→(∃rs' M,Zau rs l i= .inl rs'∧ZaR L l i= .inl M∧Told rs' M)∨∃k,Zau rs l i= .inr k∧ZaR L l i= .inr k
 |[],rs,L,i,_,h=> .inl ⟨rs,L,rfl,rfl,h⟩
 |p::l,rs,L,i,hp,h=>by
  simp only [Zau,ZaR];cases hr:rowOf p with
  |none=>exact .inr ⟨i,rfl,rfl⟩
  |some r=>
   have hok:=Zmt (hp p (by simp)) hr;have ho:=ZlG h hok;simp only [joinL];rw [←ho];cases hv:ovl rs r with
   |true=>exact .inr ⟨i,rfl,rfl⟩
   |false=>
    simp only [Bool.false_eq_true,if_false];exact Zlu l (rs++[r]) _ (i+1) (fun q hq=>hp q (by simp [hq])) (ZtM h hok hv)
theorem ZtK:Told [] []:=⟨by simp,by simp,by simp [Srt],by simp⟩
theorem ZtL {rs rs':List Rw} {L:List Pr} (h:Told rs L)(hp:rs'.Perm rs)(hs:rs'.Pairwise fun a b=>a.1≤b.1):ZdG rs'∧rs'.flatMap prs=L:=by
 obtain⟨ha,hok,hL,hm⟩:=h;have hok':∀r∈rs',ZaJ r:=fun r hr=>hok r (hp.mem_iff.1 hr);have ha':rs'.Pairwise Zcm:=by
  refine(hp.pairwise_iff ?_).2 ha;intro a b h;unfold Zcm at*;omega
 have hb:rs'.Pairwise fun a b=>a.1+a.2.1≤b.1:=by
  have hboth:=hs.and ha';refine hboth.imp_of_mem ?_;intro a b hma hmb h;obtain⟨h1,h2⟩:=h;have:=(hok' b hmb).1;unfold Zcm at h2;omega
 refine⟨⟨hb,hok'⟩,Ziz _ _ (ZeE rs' hb) hL fun x=> ?_⟩;rw [hm,List.mem_flatMap];constructor
 · rintro⟨r,hr,h⟩;exact⟨r,hp.mem_iff.1 hr,h⟩
 · rintro⟨r,hr,h⟩;exact⟨r,hp.mem_iff.2 hr,h⟩
def Zd0:List Int:=[9472,9474,9484,9488,9492,9496,9500,9508,9516,9524,9532,9600,9604,9608,9612,9616,9617,9618,9619,8992,9632,8729,8730,8776,8804,8805,160,8993,176,178,183,247,9552,9553,9554,1105,9555,9556,9557,9558,9559,9560,9561,9562,9563,9564,9565,9566,9567,9568,9569,1025,9570,9571,9572,9573,9574,9575,9576,9577,9578,9579,9580,169,1102,1072,1073,1094,1076,1077,1092,1075,1093,1080,1081,1082,1083,1084,1085,1086,1087,1103,1088,1089,1090,1091,1078,1074,1100,1099,1079,1096,1101,1097,1095,1098,1070,1040,1041,1062,1044,1045,1060,1043,1061,1048,1049,1050,1051,1052,1053,1054,1055,1071,1056,1057,1058,1059,1046,1042,1068,1067,1047,1064,1069,1065,1063,1066]
def Zev:List Int:=[9617,9618,9619,9474,9508,9569,9570,9558,9557,9571,9553,9559,9565,9564,9563,9488,9492,9524,9516,9500,9472,9532,9566,9567,9562,9556,9577,9574,9568,9552,9580,9575,9576,9572,9573,9561,9560,9554,9555,9579,9578,9496,9484,9608,9604,9612,9616,9600]
def ZeB:List Int:=[1025,1105,1028,1108,1031,1111,1038,1118,176,8729,183,8730,8470,164,9632,160]
def ukrL:List (Nat×Int):=[(164,1108),(166,1110),(167,1111),(173,1169),(180,1028),(182,1030),(183,1031),(189,1168)]
def Zby (c n:Nat):Int:=
 if c=0∨n<128 then n
 else if c=3 then
  if n<176 then(1040+n - 128:Int) else if n<224 then Zev.getD (n - 176) 0 else if n<240 then(1088+n - 224:Int) else ZeB.getD (n - 240) 0
 else if c=2 then((ukrL.find? fun x=>x.1==n).map (·.2)).getD (Zd0.getD (n - 128) 0)
 else Zd0.getD (n - 128) 0
def Zz (c:Nat):List Pr:=(List.range 256).map fun n=>(n,Zby c n)
def Zb7 (c:UInt8):Int:=if 48≤c∧c≤57 then c.toNat - 48 else if 65≤c∧c≤70 then c.toNat - 55 else -1
def hexV (l:List UInt8):Int:=l.foldl (fun p c=>p*16+Zb7 c) 0
def ZW:List UInt8→List Int
 |a::b::c::d::_::r=>hexV [a,b,c,d]::ZW r
 |_=>[]
def Zbd:List UInt8→Bool
 |a::b::c::d::_::r=>([a,b,c,d].all fun x=>decide (0≤Zb7 x))&&Zv (hexV [a,b,c,d])&&Zbd r
 |[]=>true
 |_=>false
def koiB:List UInt8:=[50,53,48,48,32,50,53,48,50,32,50,53,48,67,32,50,53,49,48,32,50,53,49,52,32,50,53,49,56,32,50,53,49,67,32,50,53,50,52,32,50,53,50,67,32,50,53,51,52,32,50,53,51,67,32,50,53,56,48,32,50,53,56,52,32,50,53,56,56,32,50,53,56,67,32,50,53,57,48,32,50,53,57,49,32,50,53,57,50,32,50,53,57,51,32,50,51,50,48,32,50,53,65,48,32,50,50,49,57,32,50,50,49,65,32,50,50,52,56,32,50,50,54,52,32,50,50,54,53,32,48,48,65,48,32,50,51,50,49,32,48,48,66,48,32,48,48,66,50,32,48,48,66,55,32,48,48,70,55,32,50,53,53,48,32,50,53,53,49,32,50,53,53,50,32,48,52,53,49,32,50,53,53,51,32,50,53,53,52,32,50,53,53,53,32,50,53,53,54,32,50,53,53,55,32,50,53,53,56,32,50,53,53,57,32,50,53,53,65,32,50,53,53,66,32,50,53,53,67,32,50,53,53,68,32,50,53,53,69,32,50,53,53,70,32,50,53,54,48,32,50,53,54,49,32,48,52,48,49,32,50,53,54,50,32,50,53,54,51,32,50,53,54,52,32,50,53,54,53,32,50,53,54,54,32,50,53,54,55,32,50,53,54,56,32,50,53,54,57,32,50,53,54,65,32,50,53,54,66,32,50,53,54,67,32,48,48,65,57,32,48,52,52,69,32,48,52,51,48,32,48,52,51,49,32,48,52,52,54,32,48,52,51,52,32,48,52,51,53,32,48,52,52,52,32,48,52,51,51,32,48,52,52,53,32,48,52,51,56,32,48,52,51,57,32,48,52,51,65,32,48,52,51,66,32,48,52,51,67,32,48,52,51,68,32,48,52,51,69,32,48,52,51,70,32,48,52,52,70,32,48,52,52,48,32,48,52,52,49,32,48,52,52,50,32,48,52,52,51,32,48,52,51,54,32,48,52,51,50,32,48,52,52,67,32,48,52,52,66,32,48,52,51,55,32,48,52,52,56,32,48,52,52,68,32,48,52,52,57,32,48,52,52,55,32,48,52,52,65,32,48,52,50,69,32,48,52,49,48,32,48,52,49,49,32,48,52,50,54,32,48,52,49,52,32,48,52,49,53,32,48,52,50,52,32,48,52,49,51,32,48,52,50,53,32,48,52,49,56,32,48,52,49,57,32,48,52,49,65,32,48,52,49,66,32,48,52,49,67,32,48,52,49,68,32,48,52,49,69,32,48,52,49,70,32,48,52,50,70,32,48,52,50,48,32,48,52,50,49,32,48,52,50,50,32,48,52,50,51,32,48,52,49,54,32,48,52,49,50,32,48,52,50,67,32,48,52,50,66,32,48,52,49,55,32,48,52,50,56,32,48,52,50,68,32,48,52,50,57,32,48,52,50,55,32,48,52,50,65,32]
def b0B:List UInt8:=[50,53,57,49,32,50,53,57,50,32,50,53,57,51,32,50,53,48,50,32,50,53,50,52,32,50,53,54,49,32,50,53,54,50,32,50,53,53,54,32,50,53,53,53,32,50,53,54,51,32,50,53,53,49,32,50,53,53,55,32,50,53,53,68,32,50,53,53,67,32,50,53,53,66,32,50,53,49,48,32,50,53,49,52,32,50,53,51,52,32,50,53,50,67,32,50,53,49,67,32,50,53,48,48,32,50,53,51,67,32,50,53,53,69,32,50,53,53,70,32,50,53,53,65,32,50,53,53,52,32,50,53,54,57,32,50,53,54,54,32,50,53,54,48,32,50,53,53,48,32,50,53,54,67,32,50,53,54,55,32,50,53,54,56,32,50,53,54,52,32,50,53,54,53,32,50,53,53,57,32,50,53,53,56,32,50,53,53,50,32,50,53,53,51,32,50,53,54,66,32,50,53,54,65,32,50,53,49,56,32,50,53,48,67,32,50,53,56,56,32,50,53,56,52,32,50,53,56,67,32,50,53,57,48,32,50,53,56,48,32]
def f0B:List UInt8:=[48,52,48,49,32,48,52,53,49,32,48,52,48,52,32,48,52,53,52,32,48,52,48,55,32,48,52,53,55,32,48,52,48,69,32,48,52,53,69,32,48,48,66,48,32,50,50,49,57,32,48,48,66,55,32,50,50,49,65,32,50,49,49,54,32,48,48,65,52,32,50,53,65,48,32,48,48,65,48,32]
theorem koi_sg:ZW koiB=Zd0∧Zbd koiB=true:=by decide+kernel
theorem b0_sg:ZW b0B=Zev∧Zbd b0B=true:=by decide+kernel
theorem f0_sg:ZW f0B=ZeB∧Zbd f0B=true:=by decide+kernel
theorem ZhJ:∀l:List UInt8,5≤l.length→∃a b c d e r,l=a::b::c::d::e::r
 |[],h=>by simp at h
 |[_],h=>by simp at h
 |[_,_],h=>by simp at h
 |[_,_,_],h=>by simp at h
 |[_,_,_,_],h=>by simp at h
 |a::b::c::d::e::r,_=>⟨a,b,c,d,e,r,rfl⟩
theorem ZhQ:∀(k:Nat) (l:List UInt8),5*k≤l.length→(ZW l).drop k=ZW (l.drop (5*k))∧k≤(ZW l).length
 |0,l,_=>by simp
 |k+1,l,h=>by
  obtain⟨a,b,c,d,e,r,rfl⟩:=ZhJ l (by omega);obtain⟨h1,h2⟩:=ZhQ k r (by simp at h;omega);refine⟨?_,by simp [ZW];exact h2⟩;rw [show 5*(k+1)=5*k+5 by omega];simp only [ZW,List.drop_succ_cons];exact h1
theorem ZhR:∀(k:Nat) (l:List UInt8),5*k≤l.length→Zbd l=true→Zbd (l.drop (5*k))=true
 |0,l,_,ho=>by simpa using ho
 |k+1,l,h,ho=>by
  obtain⟨a,b,c,d,e,r,rfl⟩:=ZhJ l (by omega);rw [show 5*(k+1)=5*k+5 by omega];simp only [List.drop_succ_cons];unfold Zbd at ho;simp only [Bool.and_eq_true] at ho;exact ZhR k r (by simp at h;omega) ho.2
theorem Zrj {l:List UInt8} (h:l.length<5)(ho:Zbd l=true):l=[]:=by
 match l,h,ho with
 |[],_,_=>rfl
 |[_],_,ho=>simp [Zbd] at ho
 |[_,_],_,ho=>simp [Zbd] at ho
 |[_,_,_],_,ho=>simp [Zbd] at ho
 |[_,_,_,_],_,ho=>simp [Zbd] at ho
 |_::_::_::_::_::_,h,_=>simp at h;omega
theorem Zrg {k:Nat} {l:List UInt8} (h:5*k≤l.length){a b c d e:UInt8} {r:List UInt8} (hd:l.drop (5*k)=a::b::c::d::e::r):
 (ZW l).take (k+1)=(ZW l).take k++[hexV [a,b,c,d]]∧l.drop (5*(k+1))=r:=by
 obtain⟨h1,h2⟩:=ZhQ k l h;rw [hd,ZW] at h1;constructor
 · rw [List.take_add_one,←List.head?_drop,h1];rfl
 · rw [show 5*(k+1)=5*k+5 by omega,←List.drop_drop,hd];rfl
theorem ZcT {c:UInt8} (h:0≤Zb7 c):c.toNat<128∧Zb7 c<16:=by
 unfold Zb7 at*;split at h
 · rename_i h1;obtain⟨h1,h2⟩:=h1;simp only [UInt8.le_iff_toNat_le] at h1 h2;split<;>first|(constructor<;>(simp at*;omega))|(rename_i hn;exact absurd ⟨by simpa [UInt8.le_iff_toNat_le] using h1,by simpa [UInt8.le_iff_toNat_le] using h2⟩ hn)
 · split at h
   · rename_i h0 h1;obtain⟨h1,h2⟩:=h1;simp only [UInt8.le_iff_toNat_le] at h1 h2;simp at h1 h2;rw [if_neg h0];split<;>(constructor<;>omega)
   · omega
theorem Zk3:∀l:List UInt8,(∀c∈l,c.toNat<128)→Zc (l.map fun c=>(c.toNat:Int))=l∧∀p∈l.map (fun c:UInt8=>(c.toNat:Int)),Zv p=true
 |[],_=>⟨rfl,by simp⟩
 |c::l,h=>by
  obtain⟨h1,h2⟩:=Zk3 l (fun x hx=>h x (List.mem_cons_of_mem _ hx));have hc:=h c (List.mem_cons_self ..);constructor
  · rw [List.map_cons,Za2,h1,Zeq (by omega) (by omega)];simp
  · intro p hp;rw [List.map_cons,List.mem_cons] at hp;rcases hp with rfl|hp
    · rw [ZaN];omega
    · exact h2 p hp
def eB:ByteArray:=⟨#[]⟩
def tB (ps:List Int):ByteArray:=⟨(Zc ps).toArray⟩
def Zbi (a b n:Int):Pce:=(a,b,n,eB,some [])
def Zdi (a:Int)(ps:List Int):Pce:=(a,0,0,tB ps,some ps)
def latP:List Pce:=[Zbi 0 0 256]
def rusP:List Pce:=[Zbi 0 0 128,Zdi 128 Zd0]
def ukrP:List Pce:=[Zbi 164 1108 1,Zbi 166 1110 2,Zbi 173 1169 1,Zbi 180 1028 1,Zbi 182 1030 2,Zbi 189 1168 1]
def altP:List Pce:=[Zbi 0 0 128,Zbi 128 1040 48,Zdi 176 Zev,Zbi 224 1088 16,Zdi 240 ZeB]
theorem ZeF (a b n:Int)(h:0≤a∧a<1000∧0≤b∧b<10000∧0≤n∧n<1000):Za6 (Zbi a b n)∧(Zbi a b n).2.2.2.1.size≤1000000:=
 ⟨⟨⟨rfl,by simp⟩,by simp [Zbi];omega,by simp [Zbi];omega,by simp [Zbi];omega⟩,(show eB.size≤1000000 by decide)⟩
theorem Zh1 (a:Int)(ps:List Int)(h:0≤a∧a<1000)(hp:(ps.all fun p=>Zv p)=true)(hl:ps.length≤1000):Za6 (Zdi a ps)∧(Zdi a ps).2.2.2.1.size≤1000000:=by
 have hg:Good (tB ps) ps:=Zq8 (fun p hp2=>List.all_eq_true.1 hp p hp2);refine⟨⟨hg,by simp [Zdi];omega,by simp [Zdi],by simp [Zdi]⟩,?_⟩;show(tB ps).size≤1000000
 rw [hg.size];have:=ZcX ps;omega
theorem Zs7:(Zd0.all fun p=>Zv p)=true:=by decide+kernel
theorem ZqU:(Zev.all fun p=>Zv p)=true:=by decide+kernel
theorem Zsg:(ZeB.all fun p=>Zv p)=true:=by decide+kernel
theorem Zrx:∀p∈latP,Za6 p∧p.2.2.2.1.size≤1000000:=by
 intro p hp;simp only [latP,List.mem_cons,List.not_mem_nil,or_false] at hp;subst hp;exact ZeF _ _ _ (by decide)
theorem Zs6:∀p∈rusP,Za6 p∧p.2.2.2.1.size≤1000000:=by
 intro p hp;simp only [rusP,List.mem_cons,List.not_mem_nil,or_false] at hp;rcases hp with rfl|rfl
 · exact ZeF _ _ _ (by decide)
 · exact Zh1 _ _ (by decide) Zs7 (by decide)
theorem Zt4:∀p∈ukrP,Za6 p∧p.2.2.2.1.size≤1000000:=by
 intro p hp;simp only [ukrP,List.mem_cons,List.not_mem_nil,or_false] at hp;rcases hp with rfl|rfl|rfl|rfl|rfl|rfl<;>exact ZeF _ _ _ (by decide)
theorem Zpn:∀p∈altP,Za6 p∧p.2.2.2.1.size≤1000000:=by
 intro p hp;simp only [altP,List.mem_cons,List.not_mem_nil,or_false] at hp;rcases hp with rfl|rfl|rfl|rfl|rfl
 · exact ZeF _ _ _ (by decide)
 · exact ZeF _ _ _ (by decide)
 · exact Zh1 _ _ (by decide) ZqU (by decide)
 · exact ZeF _ _ _ (by decide)
 · exact Zh1 _ _ (by decide) Zsg (by decide)
def madeB (l:List Pce)(L:List Pr):Bool:=match ZaR [] l 0 with
 | .inl M=>M==L
 | .inr _=>false
theorem Zgl {l:List Pce} {L:List Pr} (h:madeB l L=true):ZaR [] l 0= .inl L:=by
 unfold madeB at h;generalize ZaR [] l 0=r at*;cases r with
 |inl M=>simp only [beq_iff_eq] at h;rw [h]
 |inr _=>cases h
def ownU:List Pr:=[(164,1108),(166,1110),(167,1111),(173,1169),(180,1028),(182,1030),(183,1031),(189,1168)]
theorem Zry:ZaR [] latP 0= .inl (Zz 0):=Zgl (by decide+kernel)
theorem Zs8:ZaR [] rusP 0= .inl (Zz 1):=Zgl (by decide+kernel)
theorem Zt5:ZaR [] ukrP 0= .inl ownU:=Zgl (by decide+kernel)
theorem Zpo:ZaR [] altP 0= .inl (Zz 3):=Zgl (by decide+kernel)
theorem Zt6:Zdm ownU (Zz 1)=Zz 2:=by
 have h:(Zdm ownU (Zz 1)==Zz 2)=true:=by decide+kernel
 exact beq_iff_eq.1 h
def Zbt (L:List Pr)(n:Nat):Option Int:=L.foldl (fun o x=>if x.1=n then some x.2 else o) none
theorem Zh0 (L:List Pr)(x:Pr)(n:Nat):Zbt (L++[x]) n=if x.1=n then some x.2 else Zbt L n:=by
 unfold Zbt;rw [List.foldl_append];rfl
theorem Zll (f:Nat→Int)(n:Nat):∀N,Zbt ((List.range N).map fun m=>(m,f m)) n=if n<N then some (f n) else none
 |0=>rfl
 |N+1=>by
  rw [List.range_succ,List.map_append,List.map_cons,List.map_nil,Zh0,Zll f n N];by_cases h:N=n
  · subst h;simp
  · by_cases h2:n<N
    · rw [if_neg h,if_pos h2,if_pos (by omega)]
    · rw [if_neg h,if_neg h2,if_neg (by omega)]
theorem ls_set (c n:Nat)(hn:n<256):Zbt (Zz c) n=some (Zby c n):=by
 unfold Zz;rw [Zll,if_pos hn]
def ZM (L:List Pr)(p:Int):Option Nat:=(L.find? fun x=>x.2==p&&decide (x.1<256)).map (·.1)
theorem Zkc (L:List Pr)(x:Pr)(p:Int):ZM (L++[x]) p=(ZM L p).or (if x.2=p∧x.1<256 then some x.1 else none):=by
 unfold ZM;rw [List.find?_append];cases h:L.find? (fun x=>x.2==p&&decide (x.1<256)) with
 |some y=>simp
 |none=>
  simp only [Option.map_none,Option.none_or,List.find?_cons,List.find?_nil];by_cases h2:x.2=p∧x.1<256
  · rw [if_pos h2];simp [h2.1,h2.2]
  · rw [if_neg h2];have:(x.2==p&&decide (x.1<256))=false:=by
     rw [Bool.and_eq_false_iff];by_cases h3:x.2=p
     · right;simp;have:=fun h4=>h2 ⟨h3,h4⟩;omega
     · left;simpa using h3
    rw [this];rfl
theorem ZpK {L:List Pr} {p:Int} {n:Nat} (h:ZM L p=some n):n<256∧(n,p)∈L:=by
 unfold ZM at h;cases h2:L.find? (fun x=>x.2==p&&decide (x.1<256)) with
 |none=>rw [h2] at h;cases h
 |some y=>
  rw [h2] at h;injection h with h
  have h3:=List.find?_some h2;have h4:=List.mem_of_find?_eq_some h2;simp only [Bool.and_eq_true,beq_iff_eq,decide_eq_true_eq] at h3;obtain⟨h5,h6⟩:=h3;subst h;exact⟨h6,by rw [←h5];exact h4⟩
def dcF (L:List Pr):List UInt8→Nat→List Int⊕Nat
 |[],_=> .inl []
 |x::r,i=>match Zbt L x.toNat with
  |none=> .inr i
  |some p=>match dcF L r (i+1) with
   | .inl ps=> .inl (p::ps)
   | .inr j=> .inr j
theorem Zhz (L:List Pr):∀(bs:List UInt8) (ps:List Int) (i:Nat),bs.map (fun x=>Zbt L x.toNat)=ps.map some→dcF L bs i= .inl ps
 |[],[],_,_=>rfl
 |[],_::_,_,h=>by simp at h
 |_::_,[],_,h=>by simp at h
 |x::bs,p::ps,i,h=>by
  simp only [List.map_cons,List.cons.injEq] at h;unfold dcF;rw [h.1,Zhz L bs ps (i+1) h.2]
theorem Zkr (L:List Pr):∀(k:Nat) (bs:List UInt8) (ps:List Int) (i:Nat) (x:UInt8),(bs.take k).map (fun x=>Zbt L x.toNat)=ps.map some→bs[k]? =some x→Zbt L x.toNat=none→dcF L bs i= .inr (i+k)
 |0,bs,ps,i,x,_,h2,h3=>by
  cases bs with
  |nil=>simp at h2
  |cons y bs=>
   simp at h2;subst h2;unfold dcF;rw [h3];rfl
 |k+1,bs,ps,i,x,h1,h2,h3=>by
  cases bs with
  |nil=>simp at h2
  |cons y bs=>
   cases ps with
   |nil=>simp at h1
   |cons p ps=>
    simp only [List.take_succ_cons,List.map_cons,List.cons.injEq] at h1;simp at h2;unfold dcF;rw [h1.1,Zkr L k bs ps (i+1) x h1.2 h2 h3];simp only [Sum.inr.injEq];omega
theorem dc_set (c:Nat)(bs:List UInt8)(i:Nat):dcF (Zz c) bs i= .inl (bs.map fun x=>Zby c x.toNat):=
 Zhz _ _ _ _ (by rw [List.map_map];exact List.map_congr_left fun x _=>ls_set c _ x.toNat_lt)
def ecF (f:Int→Option Nat):List Int→Nat→List UInt8⊕Nat
 |[],_=> .inl []
 |p::r,i=>match f p with
  |none=> .inr i
  |some c=>match ecF f r (i+(Lib.encodeRune p).length) with
   | .inl cs=> .inl (c.toUInt8::cs)
   | .inr j=> .inr j
theorem ZkI (f:Int→Option Nat):∀(ps:List Int) (cs:List Nat) (i:Nat),ps.map f=cs.map some→ecF f ps i= .inl (cs.map Nat.toUInt8)
 |[],[],_,_=>rfl
 |[],_::_,_,h=>by simp at h
 |_::_,[],_,h=>by simp at h
 |p::ps,c::cs,i,h=>by
  simp only [List.map_cons,List.cons.injEq] at h;unfold ecF;rw [h.1,ZkI f ps cs _ h.2];rfl
theorem ZkJ (f:Int→Option Nat):∀(k:Nat) (ps:List Int) (cs:List Nat) (i:Nat) (p:Int),(ps.take k).map f=cs.map some→ps[k]? =some p→f p=none→ecF f ps i= .inr (i+(Zc (ps.take k)).length)
 |0,ps,cs,i,p,_,h2,h3=>by
  cases ps with
  |nil=>simp at h2
  |cons q ps=>
   simp at h2;subst h2;unfold ecF;rw [h3];simp [Zca]
 |k+1,ps,cs,i,p,h1,h2,h3=>by
  cases ps with
  |nil=>simp at h2
  |cons q ps=>
   cases cs with
   |nil=>simp at h1
   |cons c cs=>
    simp only [List.take_succ_cons,List.map_cons,List.cons.injEq] at h1;simp at h2;unfold ecF;rw [h1.1,ZkJ f k ps cs _ p h1.2 h2 h3,List.take_succ_cons,Za2,List.length_append];simp only [Sum.inr.injEq];omega
theorem sc_all:(List.range 4).all (fun c=>(List.range 256).all fun n=>Zv (Zby c n))=true:=by decide+kernel
theorem sgn_sc {c n:Nat} (hc:c≤3)(hn:n<256):Zv (Zby c n)=true:=
 List.all_eq_true.1 (List.all_eq_true.1 sc_all c (List.mem_range.2 (by omega))) n (List.mem_range.2 hn)
end Go.Proofs.YtecandjkbbpooaaGreatDoor
namespace Go.Proofs.YtecandjkbbpooaaGreatDoor
open Go Go.RowKit
abbrev Sl:=Option Addr×Nat×Nat
def slV (q:Sl):Value:= .slice q.1 q.2.1 q.2.2
def rV (x:Rw×Sl):List Value:=[.int .i64 (x.1.1:Int),.int .i64 (x.1.2.1:Int),.int .i32 x.1.2.2.1,slV x.2]
theorem ZdY (x:Rw×Sl):(rV x).length=4:=rfl
def ZD (w:World)(B:Nat)(x:Rw×Sl):Prop:=match x.1.2.2.2 with
 |none=>x.2=(none,0,0)
 |some l=>∃ad c cs fr,x.2=(some ad,l.length,c)∧l.length≤c∧ad.block<B∧ad.spot=none∧w.heap[ad.block]? =some (.cells cs 21 fr)∧∀j,j<l.length→cs[ad.off+j]? =some (.int .i32 (l.getD j 0))
theorem addr_eq {ad:Addr} (h:ad.spot=none)(j:Nat):ad.add j=⟨ad.block,ad.off+j,none⟩:=by
 unfold Addr.add;split
 · rename_i e;subst e;cases ad;simp at h;subst h;rfl
 · rfl
theorem ZgE {w:World} {ad:Addr} {cs:Array Value} {T:TypeId} {fr:Nat×Nat} (hsp:ad.spot=none)(hh:w.heap[ad.block]? =some (.cells cs T fr))(j:Nat):w.cell? (ad.add j)=cs[ad.off+j]?:=by
 rw [addr_eq hsp,cell_of_row _ ad.block _ _ _ _ hh]
theorem ZD.keep {w w':World} {B:Nat} {x:Rw×Sl} (h:ZD w B x)(hk:∀k,k<B→(∃cs fr,w.heap[k]? =some (.cells cs 21 fr))→w'.heap[k]? =w.heap[k]?):ZD w' B x:=by
 unfold ZD at*;generalize x.1.2.2.2=q at*;cases q with
 |none=>exact h
 |some l=>
  obtain⟨ad,c,cs,fr,h1,h2,h3,h5,h6,h4⟩:=h;exact⟨ad,c,cs,fr,h1,h2,h3,h5,(hk _ h3 ⟨cs,fr,h6⟩).trans h6,h4⟩
theorem ZD.below {w w':World} {B:Nat} {x:Rw×Sl} (h:ZD w B x)(hb:Below B w w'):ZD w' B x:=h.keep fun k hk _=>hb.block k hk
theorem ZD.more {w:World} {B B':Nat} {x:Rw×Sl} (h:ZD w B x)(hb:B≤B'):ZD w B' x:=by
 unfold ZD at*;generalize x.1.2.2.2=q at*;cases q with
 |none=>exact h
 |some l=>
  obtain⟨ad,c,cs,fr,h1,h2,h3,h5,h6,h4⟩:=h;exact⟨ad,c,cs,fr,h1,h2,Nat.lt_of_lt_of_le h3 hb,h5,h6,h4⟩
theorem ZcK (f n:Nat)(t:Int)(v:Value)(hf:f+n≤1048576)(w:World):
 Calls Tryz.prog 270 #[.agg #[.int .i64 (f:Int),.int .i64 (n:Int),.int .i32 t,v]] w fun e w'=>e= .returned (.int .i64 ((f:Int)+n))∧Below w.heap.size w w':=by
 have e1:IntKind.i64.wrap ((f:Int)+n)=(f:Int)+n:=IntWalk.i64_in _ (by omega);go_enter Tryz.func270,Tryz.ntmps270
 go_wp2_with fail
 go_ret
 exact⟨rfl,(Below.refl _ w).alloc (Nat.le_refl _) _⟩
def ZbD (f n:Int):Bool:=decide (0≤f∧1≤n∧f+n≤1048576)
theorem ZgY (f n:Int)(hf: -9223372036854775808≤f∧f<9223372036854775808)(w:World):
 Calls Tryz.prog 339 #[.int .i64 f,.int .i64 n] w fun e w'=>e= .returned (.bool (ZbD f n))∧w=w':=by
 by_cases h1:0≤f
 · by_cases h2:f<1048576
   · have e1:IntKind.i64.wrap (1048576 - f)=1048576 - f:=IntWalk.i64_in _ (by omega);by_cases h3:1≤n
     · have hr:ZbD f n=decide (n≤1048576 - f):=by unfold ZbD;exact decide_eq_decide.2 (by omega)
       rw [hr];go_enter Tryz.func339,Tryz.ntmps339
       go_wp2_with fail
       go_ret
       exact⟨rfl,rfl⟩
     · have hr:ZbD f n=false:=by unfold ZbD;exact decide_eq_false (by omega)
       rw [hr];go_enter Tryz.func339,Tryz.ntmps339
       go_wp2_with fail
       go_ret
       exact⟨rfl,rfl⟩
   · have hr:ZbD f n=false:=by unfold ZbD;exact decide_eq_false (by omega)
     rw [hr];go_enter Tryz.func339,Tryz.ntmps339
     go_wp2_with fail
     go_ret
     exact⟨rfl,rfl⟩
 · have hr:ZbD f n=false:=by unfold ZbD;exact decide_eq_false (by omega)
   rw [hr];go_enter Tryz.func339,Tryz.ntmps339
   go_wp2_with fail
   go_ret
   exact⟨rfl,rfl⟩
theorem Zb1 (f:Int)(t:Int)(n:Int)(w:World):
 Calls Tryz.prog 206 #[.int .i64 f,.int .i32 t,.int .i64 n] w fun e w'=>e= .returned (.agg #[.int .i64 f,.int .i32 t,.int .i64 n,.string ⟨#[]⟩])∧Below w.heap.size w w':=by
 go_enter Tryz.func206,Tryz.ntmps206
 go_wp2_with fail
 refine bodyPost_ret (v:= .agg #[.int .i64 f,.int .i32 t,.int .i64 n,.string ⟨#[]⟩]) (by simp [results,Tryz.results206,go_sem]) rfl ⟨rfl,?_⟩;exact(Below.refl _ w).alloc (Nat.le_refl _) _
theorem ZfM (f:Int)(s:ByteArray)(w:World):
 Calls Tryz.prog 266 #[.int .i64 f,.string s] w fun e w'=>e= .returned (.agg #[.int .i64 f,.int .i32 0,.int .i64 0,.string s])∧Below w.heap.size w w':=by
 go_enter Tryz.func266,Tryz.ntmps266
 go_wp2_with fail
 refine bodyPost_ret (v:= .agg #[.int .i64 f,.int .i32 0,.int .i64 0,.string s]) (by simp [results,Tryz.results266,go_sem]) rfl ⟨rfl,?_⟩;exact(Below.refl _ w).alloc (Nat.le_refl _) _
theorem Zg9 (x:Rw×Sl)(c:Nat)(hx:ZaJ x.1)(hc:x.1.1≤c∧c<x.1.1+x.1.2.1)(w:World)(hs:ZD w w.heap.size x):
 Calls Tryz.prog 271 #[.agg (rV x).toArray,.int .i64 (c:Int)] w fun e w'=>e= .returned (.int .i32 (Z4 x.1 (c - x.1.1)))∧Below w.heap.size w w':=by
 obtain⟨⟨f,n,t,q⟩,v⟩:=x;obtain⟨h1,h2,h3⟩:=hx;simp only at h1 h2 h3 hc;have e1:IntKind.i64.wrap ((c:Int) - f)=(c:Int) - f:=IntWalk.i64_in _ (by omega);have e2:((c:Int) - f).toNat=c - f:=by omega
 have hcf:(c:Int) - f=((c - f:Nat):Int):=by omega
 cases q with
 |none=>
  obtain rfl:v=(none,0,0):=hs;simp only at h3;have e3:IntKind.i32.wrap ((c:Int) - f)=(c:Int) - f:=IntWalk.i32_in _ (by omega);have e4:IntKind.i32.wrap (t+((c:Int) - f))=t+((c:Int) - f):=IntWalk.i32_in _ (by omega);have hr:Z4 (f,n,t,none) (c - f)=t+((c - f:Nat):Int):=rfl;simp only;rw [hr];unfold rV slV;simp only;have hnn:=fun(w:World) (a:Option Addr) (n c:Nat)=>run_neq_slice_nil_any (P:=Tryz.prog) w 308 _ a n c 0 0 Tryz.underlying308;go_enter Tryz.func271,Tryz.ntmps271
  go_wp2_with fail
  go_ret
  exact⟨rfl,(Below.refl _ w).alloc (Nat.le_refl _) _⟩
 |some l=>
  obtain⟨ad,cp,cs,fr,hv,hcp,hbk,hsp,hh,hcs⟩:=hs;have hcell:∀j,j<l.length→w.cell? (ad.add j)=some (.int .i32 (l.getD j 0)):=fun j hj=>(ZgE hsp hh j).trans (hcs j hj);clear hcs hh;simp only at hv hcp hcell h3;subst hv;have hl:c - f<l.length:=by omega
  have hab:(ad.add (c - f)).block<w.heap.size:=by unfold Addr.add;split<;>exact hbk
  have hce:=fun o=>(World.cell?_alloc_lt w o _ hab).trans (hcell (c - f) hl);have hr:Z4 (f,n,t,some l) (c - f)=l.getD (c - f) 0:=rfl;simp only;rw [hr];generalize l.getD (c - f) 0=z at*;clear hcell hr;unfold rV slV;simp only;have hnn:=fun(w:World) (a:Option Addr) (n c:Nat)=>run_neq_slice_nil_any (P:=Tryz.prog) w 308 _ a n c 0 0 Tryz.underlying308;go_enter Tryz.func271,Tryz.ntmps271
  go_wp2_with fail
  go_ret
  exact⟨rfl,(Below.refl _ w).alloc (Nat.le_refl _) _⟩
theorem bx {w wr:World} {T:TypeId} {cs:Array Value} (hb:Below (w.alloc (.cells cs T)).heap.size (w.alloc (.cells cs T)) wr):
 (∀j,wr.cell? ⟨w.heap.size,j,none⟩=cs[j]?)∧(∀j,wr.frozen? ⟨w.heap.size,j,none⟩=false)∧w.heap.size<wr.heap.size:=by
 have h1:=hb.size;simp only [World.size_alloc] at h1;have hl:w.heap.size<(w.alloc (.cells cs T)).heap.size:=by simp
 have e:=heap_alloc_new w (.cells cs T);refine⟨fun j=> ?_,fun j=> ?_,by omega⟩
 · rw [hb.cell (p:=⟨w.heap.size,j,none⟩) hl,cell_of_row _ w.heap.size j _ T (0,0) e]
 · rw [hb.frozen (p:=⟨w.heap.size,j,none⟩) hl,frozen_of_row _ w.heap.size j _ T e]
theorem bx4 {w wr:World} {T:TypeId} {a b c d:Value} (hb:Below (w.alloc (.cells #[a,b,c,d] T)).heap.size (w.alloc (.cells #[a,b,c,d] T)) wr):
 (wr.cell? ⟨w.heap.size,0,none⟩=some a∧wr.cell? ⟨w.heap.size,1,none⟩=some b∧wr.cell? ⟨w.heap.size,2,none⟩=some c∧wr.cell? ⟨w.heap.size,3,none⟩=some d)∧(wr.frozen? ⟨w.heap.size,0,none⟩=false∧wr.frozen? ⟨w.heap.size,1,none⟩=false∧wr.frozen? ⟨w.heap.size,2,none⟩=false∧wr.frozen? ⟨w.heap.size,3,none⟩=false):=by
 obtain⟨h1,h2,_⟩:=bx hb;exact⟨⟨h1 0,h1 1,h1 2,h1 3⟩,h2 0,h2 1,h2 2,h2 3⟩
theorem Zhh (a:Addr)(i j:Nat):(a.add i).add j=a.add (i+j):=by
 unfold Addr.add;by_cases h1:i=0
 · subst h1;simp
 · by_cases h2:j=0
   · subst h2;simp
   · rw [if_neg h1,if_neg h2,if_neg (by omega)];simp [Nat.add_assoc]
def ZC (r:Rw)(a b:Nat):Rw:=(a,b - a,match r.2.2.2 with
 |none=>(r.2.2.1+((a - r.1:Nat):Int),none)
 |some l=>(0,some ((l.drop (a - r.1)).take (b - a))))
theorem Zgt {r:Rw} {a b:Nat} (h:ZaJ r)(h1:r.1≤a)(h2:a<b)(h3:b≤r.1+r.2.1):ZaJ (ZC r a b):=by
 obtain⟨f,n,t,q⟩:=r;obtain⟨g1,g2,g3⟩:=h;simp only at g1 g2 g3 h1 h3;cases q with
 |none=>
  simp only at g3;refine⟨by simp [ZC];omega,by simp [ZC];omega,?_⟩;simp only [ZC];omega
 |some l=>
  simp only at g3;refine⟨by simp [ZC];omega,by simp [ZC];omega,?_⟩;simp only [ZC];refine⟨trivial,by rw [List.length_take,List.length_drop];omega,fun p hp=>g3.2.2 p (List.mem_of_mem_drop (List.mem_of_mem_take hp))⟩
theorem ZlX {r:Rw} {a b c:Nat} (h1:r.1≤a)(h2:a≤c)(h3:c<b):Z4 (ZC r a b) (c - a)=Z4 r (c - r.1):=by
 obtain⟨f,n,t,q⟩:=r;simp only at h1;cases q with
 |none=>simp only [ZC,Z4];omega
 |some l=>
  simp only [ZC,Z4,List.getD];rw [List.getElem?_take_of_lt (by omega),List.getElem?_drop,show a - f+(c - a)=c - f by omega]
theorem ZlW {r:Rw} {a b:Nat} (h1:r.1≤a)(h3:b≤r.1+r.2.1){x:Pr}:x∈prs (ZC r a b)↔a≤x.1∧x.1<b∧x∈prs r:=by
 have e1:(ZC r a b).1=a:=rfl;have e2:(ZC r a b).2.1=b - a:=rfl;rw [Zbu,Zbu,e1,e2];constructor
 · rintro⟨g1,g2,g3⟩;rw [ZlX h1 g1 (by omega)] at g3;exact⟨g1,by omega,by omega,by omega,g3⟩
 · rintro⟨g1,g2,g3,g4,g5⟩;exact⟨g1,by omega,by rw [ZlX h1 g1 g2];exact g5⟩
def Zg7 (x:Rw×Sl)(a b:Nat)(w0:World)(e:Ending)(w':World):Prop:=∃v,e= .returned (.agg (rV (ZC x.1 a b,v)).toArray)∧ZD w' w0.heap.size (ZC x.1 a b,v)∧Below w0.heap.size w0 w'
theorem Zjq (x:Rw×Sl)(a b:Nat)(hx:ZaJ x.1)(h1:x.1.1≤a)(h2:a<b)(h3:b≤x.1.1+x.1.2.1)(w:World)(hs:ZD w w.heap.size x):
 Calls Tryz.prog 314 #[.agg (rV x).toArray,.int .i64 (a:Int),.int .i64 (b:Int)] w (Zg7 x a b w):=by
 have hsg:=fun(W:World) (hb:Below w.heap.size w W)=>Zg9 x a hx ⟨h1,by omega⟩ W ((hs.below hb).more hb.size);obtain⟨⟨f,n,t,q⟩,v⟩:=x;obtain⟨g1,g2,g3⟩:=hx;simp only at g1 g2 g3 h1 h3 hsg;have e1:IntKind.i64.wrap ((b:Int) - a)=(b:Int) - a:=IntWalk.i64_in _ (by omega);have c1:(b:Int) - a=((b - a:Nat):Int):=by omega
 have hnn:=fun(w:World) (a:Option Addr) (n c:Nat)=>run_neq_slice_nil_any (P:=Tryz.prog) w 308 _ a n c 0 0 Tryz.underlying308;cases q with
 |none=>
  obtain rfl:v=(none,0,0):=hs;unfold rV slV at hsg⊢;unfold Zg7 rV slV;simp only [ZC] at hsg⊢;have hr:Z4 (f,n,t,none) (a - f)=t+((a - f:Nat):Int):=rfl;rw [hr] at hsg;go_enter Tryz.func314,Tryz.ntmps314
  go_wp2_with (go_at_call 271;refine(hsg _ (((((Below.refl _ w).alloc (Nat.le_refl _) _).alloc (by simp) _).alloc (by simp;omega) _))).mono ?_;rintro e w1 ⟨rfl,hb1⟩;have hB1:=Ze hb1;obtain⟨⟨b0,b1,b2,b3⟩,f0,f1,f2,f3⟩:=bx4 hb1;obtain⟨⟨c0,c1,c2,c3⟩,k0,k1,k2,k3⟩:=bx4 (Ze hb1);simp only [World.size_alloc] at b0 b1 b2 b3 f0 f1 f2 f3 c0 c1 c2 c3 k0 k1 k2 k3)
  refine bodyPost_ret (v:= .agg #[.int .i64 (a:Int),.int .i64 ((b - a:Nat):Int),.int .i32 (t+((a - f:Nat):Int)),.slice none 0 0]) (by simp [results,Tryz.results314,go_sem,c0,c1,c2,c3]) rfl ?_;refine⟨(none,0,0),rfl,rfl,?_⟩;exact(((((Ze (Ze (Ze hb1))).setCell (by simp;omega) _).setCell (by simp) _).setCell (by simp) _).setCell (by simp) _).setCell (by simp) _
 |some l=>
  obtain⟨ad,cp,cs,fr,hv,hcp,hbk,hsp,hh,hcs⟩:=hs;simp only at hv hcp hcs g3;obtain⟨rfl,g4,_⟩:=g3;subst hv;have e2:IntKind.i64.wrap ((a:Int) - f)=(a:Int) - f:=IntWalk.i64_in _ (by omega);have c2:(a:Int) - f=((a - f:Nat):Int):=by omega
  have e3:IntKind.i64.wrap ((b:Int) - f)=(b:Int) - f:=IntWalk.i64_in _ (by omega);have c3:(b:Int) - f=((b - f:Nat):Int):=by omega
  have hfin:ZD w w.heap.size ((a,b - a,0,some ((l.drop (a - f)).take (b - a))),(some (ad.add (a - f)),b - f - (a - f),cp - (a - f))):=by
   have hbk2:(ad.add (a - f)).block=ad.block:=by rw [addr_eq hsp]
   have hof2:(ad.add (a - f)).off=ad.off+(a - f):=by rw [addr_eq hsp]
   refine⟨ad.add (a - f),cp - (a - f),cs,fr,?_,?_,by rw [hbk2];exact hbk,by rw [addr_eq hsp],by rw [hbk2];exact hh,fun j hj=> ?_⟩
   · simp only [List.length_take,List.length_drop];rw [show min (b - a) (l.length - (a - f))=b - f - (a - f) by omega]
   · simp only [List.length_take,List.length_drop];omega
   · simp only [List.length_take,List.length_drop] at hj;have:=hcs (a - f+j) (by omega);rw [hof2,Nat.add_assoc,this];simp only [List.getD];rw [List.getElem?_take_of_lt (by omega),List.getElem?_drop]
  have Hfin:=Lib.hid hfin;have g5:a - f≤b - f:=by omega
  have g6:b - f≤cp:=by omega
  have g7:a - f≤cp:=by omega
  clear hcs hh hfin hsg;unfold Zg7 rV slV;simp only [ZC];go_enter Tryz.func314,Tryz.ntmps314
  go_wp2_with fail
  refine bodyPost_ret (v:= .agg #[.int .i64 (a:Int),.int .i64 ((b - a:Nat):Int),.int .i32 0,.slice (some (ad.add (a - f))) (b - f - (a - f)) (cp - (a - f))]) (by simp [results,Tryz.results314,go_sem]) rfl ?_;have hB:∀o1 o2 o3,Below w.heap.size w (((w.alloc o1).alloc o2).alloc o3):=fun o1 o2 o3=>(((Below.refl _ w).alloc (Nat.le_refl _) _).alloc (by simp) _).alloc (by simp;omega) _;exact⟨(some (ad.add (a - f)),b - f - (a - f),cp - (a - f)),rfl,Hfin.out.below (hB _ _ _),hB _ _ _⟩
def pV (p:Pce):List Value:=[.int .i64 p.1,.int .i32 p.2.1,.int .i64 p.2.2.1,.string p.2.2.2.1]
theorem ZlT (p:Pce):(pV p).length=4:=rfl
def Zbv:Value:= .agg #[.int .i64 0,.int .i64 0,.int .i32 0,.slice none 0 0]
def ZfO (p:Pce)(w0:World)(e:Ending)(w':World):Prop:=(rowOf p=none∧e= .returned (.tuple #[Zbv,.bool false])∨∃r v,rowOf p=some r∧e= .returned (.tuple #[.agg (rV (r,v)).toArray,.bool true])∧ZD w' w'.heap.size (r,v))∧Below w0.heap.size w0 w'
theorem Zgg (f n:Int):ZbD f n=true↔0≤f∧1≤n∧f+n≤1048576:=by unfold ZbD;exact decide_eq_true_iff
theorem Zb3 {w:World} {k j:Nat} {p:Addr} (h:p.block≠k)(v:Value):(w.setCell ⟨k,j,none⟩ v).cell? p=w.cell? p:=
 World.cell?_setCell_other _ _ _ _ (fun e=>h (by rw [←e]))
theorem heap_set {w:World} {k j g:Nat} (h:g≠k)(v:Value):(w.setCell ⟨k,j,none⟩ v).heap[g]? =w.heap[g]?:=Go.Deep.blk_setCell_other w _ v g h
theorem sg_box {w:World} {k:Nat} {ps:List Int} {A:Option Addr} {c f:Nat} (hnum:ZaP w w.heap.size .i32 A ps)(hcap:ps.length≤c)(hl:1≤ps.length)(hfr:∀ad,A=some ad→ad.block≠k∧ad.spot=none∧∃cs fr,w.heap[ad.block]? =some (.cells cs 21 fr)∧∀j,j<ps.length→cs[ad.off+j]? =some (.int .i32 (ps.getD j 0)))(v0 v1 v2 v3:Value)(o:Obj):
 ZD (((((w.setCell ⟨k,0,none⟩ v0).setCell ⟨k,1,none⟩ v1).setCell ⟨k,2,none⟩ v2).setCell ⟨k,3,none⟩ v3).alloc o) (((((w.setCell ⟨k,0,none⟩ v0).setCell ⟨k,1,none⟩ v1).setCell ⟨k,2,none⟩ v2).setCell ⟨k,3,none⟩ v3).alloc o).heap.size ((f,ps.length,0,some ps),(A,ps.length,c)):=by
 obtain⟨ad,rfl,hbk,_⟩:=hnum.at_ (i:=0) (by omega);obtain⟨hfa,hsp,cs,fr,hh,hcs⟩:=hfr ad rfl;refine⟨ad,c,cs,fr,rfl,hcap,by simp;omega,hsp,?_,hcs⟩;rw [Below.heap_alloc _ _ _ (by simp;omega),heap_set hfa,heap_set hfa,heap_set hfa,heap_set hfa];exact hh
theorem Zom (p:Pce)(hp:Za6 p)(hs:p.2.2.2.1.size≤1000000)(w:World)(hT:Zk w):
 Calls Tryz.prog 311 #[.agg (pV p).toArray] w (ZfO p w):=by
 have HN:Hid (rowOf p=none→∀w',Below w.heap.size w w'→ZfO p w (.returned (.tuple #[Zbv,.bool false])) w'):=Lib.hid fun h w' hb=>⟨.inl ⟨h,rfl⟩,hb⟩
 have HY:Hid (∀r v w',rowOf p=some r→ZD w' w'.heap.size (r,v)→Below w.heap.size w w'→ZfO p w (.returned (.tuple #[.agg (rV (r,v)).toArray,.bool true])) w'):=Lib.hid fun r v w' h hg hb=>⟨.inr ⟨r,v,h,rfl,hg⟩,hb⟩
 generalize ZfO p w=P at*;unfold Zbv at HN;obtain⟨f,t,n,s,q⟩:=p;obtain⟨hg,hf,ht,hn⟩:=hp;simp only at hg hf ht hn hs;have hB2:∀o1 o2,Below w.heap.size w ((w.alloc o1).alloc o2):=fun o1 o2=>((Below.refl _ w).alloc (Nat.le_refl _) _).alloc (by simp) _;have hrow:rowOf (f,t,n,s,q)=if s.size≠0 then
  match q with
  |some ps=>if 0≤f∧f+ps.length≤1048576 then some (f.toNat,ps.length,0,some ps) else none
  |none=>none
  else if 0≤f∧1≤n∧f+n≤1048576∧Zv t=true∧Zv (t+n - 1)=true∧(t<55296↔t+n - 1<55296) then some (f.toNat,n.toNat,t,none)
  else none:=rfl
 unfold pV;by_cases hz:s.size=0
 · rw [if_neg (by simpa using hz)] at hrow;have hem:s.toList.isEmpty=true:=by
    rw [ByteArray.toList_eq,show s.data.toList=[] from List.eq_nil_of_length_eq_zero (by simpa using hz)];rfl
   have hin:=fun w=>ZgY f n hf w;have hsc:=fun w=>Zha t w;clear hg;cases hi:ZbD f n with
   |false=>
    have hno:¬(0≤f∧1≤n∧f+n≤1048576):=fun h=>by rw [(Zgg f n).2 h] at hi;cases hi
    rw [if_neg (fun h=>hno ⟨h.1,h.2.1,h.2.2.1⟩)] at hrow;have Hf:=Lib.hid (HN.out hrow);rw [hi] at hin;clear HN HY hrow hno;go_enter Tryz.func311,Tryz.ntmps311
    go_wp2_with (go_at_call 339;refine(hin _).mono ?_;rintro e w1 ⟨rfl,rfl⟩)
    refine bodyPost_ret (v:= .tuple #[Zbv,.bool false]) (by simp [Zbv,results,Tryz.results311,go_sem]) rfl ?_;exact Hf.out _ (hB2 _ _)
   |true=>
    have hyes:=(Zgg f n).1 hi;rw [hi] at hin;cases hst:Zv t with
    |false=>
     rw [if_neg (fun h=>by rw [hst] at h;cases h.2.2.2.1)] at hrow;have Hf:=Lib.hid (HN.out hrow);rw [hst] at hsc;clear HN HY hrow;go_enter Tryz.func311,Tryz.ntmps311
     go_wp2_with (first|(go_at_call 339;refine(hin _).mono ?_;rintro e w1 ⟨rfl,rfl⟩)|(go_at_call 325;refine(hsc _).mono ?_;rintro e w1 ⟨rfl,rfl⟩))
     refine bodyPost_ret (v:= .tuple #[Zbv,.bool false]) (by simp [Zbv,results,Tryz.results311,go_sem]) rfl ?_;exact Hf.out _ (hB2 _ _)
    |true=>
     rw [hst] at hsc;have h1:=Zfp hst;have e1:IntKind.i64.wrap (n - 1)=n - 1:=IntWalk.i64_in _ (by omega);have e2:IntKind.i32.wrap (n - 1)=n - 1:=IntWalk.i32_in _ (by omega);have e3:IntKind.i32.wrap (t+(n - 1))=t+(n - 1):=IntWalk.i32_in _ (by omega);have hsl:=fun w=>Zha (t+(n - 1)) w;have e4:t+n - 1=t+(n - 1):=by omega
     rw [e4] at hrow;cases hsl2:Zv (t+(n - 1)) with
     |false=>
      rw [if_neg (fun h=>by rw [hsl2] at h;cases h.2.2.2.2.1)] at hrow;have Hf:=Lib.hid (HN.out hrow);rw [hsl2] at hsl;clear HN HY hrow e4;go_enter Tryz.func311,Tryz.ntmps311
      go_wp2_with (first|(go_at_call 339;refine(hin _).mono ?_;rintro e w1 ⟨rfl,rfl⟩)|(go_at_call 325;first|(refine(hsc _).mono ?_;rintro e w1 ⟨rfl,rfl⟩;clear hsc)|(refine(hsl _).mono ?_;rintro e w1 ⟨rfl,rfl⟩)))
      refine bodyPost_ret (v:= .tuple #[Zbv,.bool false]) (by simp [Zbv,results,Tryz.results311,go_sem]) rfl ?_;exact Hf.out _ (hB2 _ _)
     |true=>
      rw [hsl2] at hsl;by_cases hgap:t<55296↔t+(n - 1)<55296
      · have hgb:(!decide (t<55296)==decide (t+(n - 1)<55296))=false:=by simp [hgap]
        rw [if_pos ⟨hyes.1,hyes.2.1,hyes.2.2,hst,hsl2,hgap⟩] at hrow;have hf2:((f.toNat:Nat):Int)=f:=by omega
        have hn2:((n.toNat:Nat):Int)=n:=by omega
        have Hf:=Lib.hid (HY.out _ (none,0,0) · hrow rfl);unfold rV slV at Hf;simp only [hf2,hn2] at Hf;clear HN HY hrow e4 hf2 hn2 hyes hgap;go_enter Tryz.func311,Tryz.ntmps311
        go_wp2_with (first|(go_at_call 339;refine(hin _).mono ?_;rintro e w1 ⟨rfl,rfl⟩)|(go_at_call 325;first|(refine(hsc _).mono ?_;rintro e w1 ⟨rfl,rfl⟩;clear hsc)|(refine(hsl _).mono ?_;rintro e w1 ⟨rfl,rfl⟩)))
        refine bodyPost_ret (v:= .tuple #[.agg #[.int .i64 f,.int .i64 n,.int .i32 t,.slice none 0 0],.bool true]) (by simp [results,Tryz.results311,go_sem]) rfl ?_;exact Hf.out _ (hB2 _ _)
      · have hgb:(!decide (t<55296)==decide (t+(n - 1)<55296))=true:=by
         have a:t<55296:=by omega
         have b:¬t+(n - 1)<55296:=by omega
         simp [a,b]
        rw [if_neg (fun h=>hgap h.2.2.2.2.2)] at hrow;have Hf:=Lib.hid (HN.out hrow);clear HN HY hrow e4 hgap;go_enter Tryz.func311,Tryz.ntmps311
        go_wp2_with (first|(go_at_call 339;refine(hin _).mono ?_;rintro e w1 ⟨rfl,rfl⟩)|(go_at_call 325;first|(refine(hsc _).mono ?_;rintro e w1 ⟨rfl,rfl⟩;clear hsc)|(refine(hsl _).mono ?_;rintro e w1 ⟨rfl,rfl⟩)))
        refine bodyPost_ret (v:= .tuple #[Zbv,.bool false]) (by simp [Zbv,results,Tryz.results311,go_sem]) rfl ?_;exact Hf.out _ (hB2 _ _)
 · rw [if_pos (by simpa using hz)] at hrow;have hem:s.toList.isEmpty=false:=by
    have:=(show s.data.toList.length=s.size by simp)
    rw [ByteArray.toList_eq];generalize s.data.toList=l at*;cases l with
    |nil=>simp at this;omega
    |cons _ _=>rfl
   cases q with
   |none=>
    obtain⟨k,hbad⟩:=hg;have hin:∀w,Calls Tryz.prog 339 #[.int .i64 f,.int .i64 0] w fun e w'=>e= .returned (.bool false)∧w=w':=fun w=>by
     have:=ZgY f 0 hf w;rw [show ZbD f 0=false from decide_eq_false (by omega)] at this;exact this
    have hc:=fun w hT=>Znt s k hbad (by omega) w hT;have Hf:=Lib.hid (HN.out hrow);clear HN HY hrow;go_enter Tryz.func311,Tryz.ntmps311
    go_wp2_with (first|(go_at_call 339;refine(hin _).mono ?_;rintro e w1 ⟨rfl,rfl⟩)|(go_at_call 338;refine(hc _ (ZI (ZI hT _) _)).mono ?_;rintro e w1 ⟨rfl,hb1⟩;obtain⟨⟨b0,b1,b2,b3⟩,f0,f1,f2,f3⟩:=bx4 hb1;obtain⟨⟨c0,c1,c2,c3⟩,k0,k1,k2,k3⟩:=bx4 (Ze hb1);simp only [World.size_alloc] at b0 b1 b2 b3 f0 f1 f2 f3))
    refine bodyPost_ret (v:= .tuple #[Zbv,.bool false]) (by simp [Zbv,results,Tryz.results311,go_sem,b0,b1,b2,b3]) rfl ?_;exact Hf.out _ (((((Ze (Ze hb1)).setCell (by simp) _).setCell (by simp) _).setCell (by simp) _).setCell (by simp) _)
   |some ps=>
    have hg:Good s ps:=hg;have hl1:=Zk4 hg hz;have hl2:=hg.len;have hin:=fun w=>ZgY f ps.length hf w;have hc:=fun w hT=>Zi1 s ps hg (by omega) w hT;simp only at hrow;cases hi:ZbD f ps.length with
    |false=>
     rw [if_neg (fun h=>by rw [(Zgg f ps.length).2 ⟨h.1,by omega,h.2⟩] at hi;cases hi)] at hrow;rw [hi] at hin;have Hf:=Lib.hid (HN.out hrow);clear HN HY hrow;go_enter Tryz.func311,Tryz.ntmps311
     go_wp2_with (first|(go_at_call 339;refine(hin _).mono ?_;rintro e w1 ⟨rfl,rfl⟩)|(go_at_call 338;refine(hc _ (ZI (ZI hT _) _)).mono ?_;rintro e w1 ⟨rfl,hb1⟩;obtain⟨⟨b0,b1,b2,b3⟩,f0,f1,f2,f3⟩:=bx4 hb1;obtain⟨⟨c0,c1,c2,c3⟩,k0,k1,k2,k3⟩:=bx4 (Ze hb1);simp only [World.size_alloc] at b0 b1 b2 b3 f0 f1 f2 f3))
     refine bodyPost_ret (v:= .tuple #[Zbv,.bool false]) (by simp [Zbv,results,Tryz.results311,go_sem,b0,b1,b2,b3]) rfl ?_;exact Hf.out _ (((((Ze (Ze hb1)).setCell (by simp) _).setCell (by simp) _).setCell (by simp) _).setCell (by simp) _)
    |true=>
     have hyes:=(Zgg f ps.length).1 hi;rw [if_pos ⟨hyes.1,hyes.2.2⟩] at hrow;rw [hi] at hin;have hf2:((f.toNat:Nat):Int)=f:=by omega
     have hpt:=fun w hT=>Zox s ps hg (by omega) w hT;have Hf:=Lib.hid (fun v w'=>HY.out _ v w' hrow);unfold rV slV at Hf;simp only [hf2] at Hf;clear HN HY hrow hf2 hyes;go_enter Tryz.func311,Tryz.ntmps311
     go_wp2_with (first|(go_at_call 339;refine(hin _).mono ?_;rintro e w1 ⟨rfl,rfl⟩)|(go_at_call 338;refine(hc _ (ZI (ZI hT _) _)).mono ?_;rintro e w1 ⟨rfl,hb1⟩;have hz1:=hb1.size;simp only [World.size_alloc] at hz1;obtain⟨⟨b0,b1,b2,b3⟩,f0,f1,f2,f3⟩:=bx4 hb1;obtain⟨⟨c0,c1,c2,c3⟩,k0,k1,k2,k3⟩:=bx4 (Ze hb1);simp only [World.size_alloc] at b0 b1 b2 b3 f0 f1 f2 f3)|(go_at_call 276;refine(hpt _ (Zaf hT (Ze (Ze hb1)) (Nat.le_refl _))).mono ?_;rintro e w2 ⟨A,c,rfl,hcap,hnum,hfr,hb2⟩;have hz2:=hb2.size;have g0:w.heap.size<w2.heap.size:=(by omega);have g1:w.heap.size+1<w2.heap.size:=(by omega);have d0:=(hb2.cell (p:=⟨w.heap.size,0,none⟩) (by show w.heap.size<_;omega)).trans c0;have q0:=(hb2.cell (p:=⟨w.heap.size+1,0,none⟩) (by show w.heap.size+1<_;omega)).trans b0;have q1:=(hb2.cell (p:=⟨w.heap.size+1,1,none⟩) (by show w.heap.size+1<_;omega)).trans b1;have q2:=(hb2.cell (p:=⟨w.heap.size+1,2,none⟩) (by show w.heap.size+1<_;omega)).trans b2;have q3:=(hb2.cell (p:=⟨w.heap.size+1,3,none⟩) (by show w.heap.size+1<_;omega)).trans b3;have r0:=(hb2.frozen (p:=⟨w.heap.size+1,0,none⟩) (by show w.heap.size+1<_;omega)).trans f0;have r1:=(hb2.frozen (p:=⟨w.heap.size+1,1,none⟩) (by show w.heap.size+1<_;omega)).trans f1;have r2:=(hb2.frozen (p:=⟨w.heap.size+1,2,none⟩) (by show w.heap.size+1<_;omega)).trans f2;have r3:=(hb2.frozen (p:=⟨w.heap.size+1,3,none⟩) (by show w.heap.size+1<_;omega)).trans f3))
     refine bodyPost_ret (v:= .tuple #[.agg #[.int .i64 f,.int .i64 ps.length,.int .i32 0,.slice A ps.length c],.bool true]) (by simp [results,Tryz.results311,go_sem,World.cell?_alloc_lt,g1,q0,q1,q2,q3]) rfl ?_;refine Hf.out (A,ps.length,c) _ ?_ ?_
     · exact sg_box hnum hcap hl1 (fun ad e=>⟨by have:=(hfr ad e).1;omega,(hfr ad e).2⟩) _ _ _ _ _
     · exact((((((Ze (Ze hb1)).trans (hb2.mono (by omega))).setCell (by simp) _).setCell (by simp) _).setCell (by simp) _).setCell (by simp) _).alloc (by simp;omega) _
end Go.Proofs.YtecandjkbbpooaaGreatDoor
