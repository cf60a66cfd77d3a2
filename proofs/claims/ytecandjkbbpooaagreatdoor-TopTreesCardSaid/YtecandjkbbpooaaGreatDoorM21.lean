/- Lemmas for a statement on the tops; conditions: as each says. -/
import Derived.Laws.Tables
import Derived.Laws.Rows
import Derived.Deep.WholeRow
import Derived.Test.YtecandjkbbpooaaGreatDoorM17
set_option linter.unusedVariables false
set_option linter.unusedSimpArgs false
set_option maxRecDepth 100000
set_option maxHeartbeats 1000000
namespace Go.Proofs.YtecandjkbbpooaaGreatDoor
open Go Go.RowKit
theorem setRow_other (w:World)(g k:Nat)(cs:Array Value)(h:k≠g):(w.setRow g cs).heap[k]? =w.heap[k]?:=by
 unfold World.setRow;rw [Array.getElem?_modify,if_neg (fun e=>h e.symm)]
theorem size_setRow (w:World)(g:Nat)(cs:Array Value):(w.setRow g cs).heap.size=w.heap.size:=by
 unfold World.setRow;simp
theorem Bx.row {w:World} {g:Nat} {old:Array Value} {T:TypeId} (h:Bx w g old T)(cs:Array Value):Bx (w.setRow g cs) g cs T:=setRow_heap w g old cs T (0,0) h
theorem Bx.rowO {w:World} {g k:Nat} {old:Array Value} {T:TypeId} (h:Bx w g old T)(hk:g≠k)(cs:Array Value):Bx (w.setRow k cs) g old T:=(setRow_other w k g cs hk).trans h
theorem ZfV {B g:Nat} {a w:World} (h:Below B a w)(hg:B≤g)(cs:Array Value):Below B a (w.setRow g cs):=
 ⟨h.os,h.tape,h.output,by rw [size_setRow];exact h.size,fun k hk=>(setRow_other w g k cs (by omega)).trans (h.block k hk)⟩
theorem ZpF {C:Nat} {w:World} (cs:Array Value):But C w.heap.size w (w.setRow C cs):=
 ⟨rfl,rfl,rfl,by rw [size_setRow];exact Nat.le_refl _,fun k _ hc=>setRow_other w C k cs hc⟩
end Go.Proofs.YtecandjkbbpooaaGreatDoor
namespace Go.Proofs.YtecandjkbbpooaaGreatDoor
open Go
def ZaC:List UInt8→Option (List UInt8×List UInt8)
 |[]=>none
 |x::r=>if x=0 then some ([],r) else match ZaC r with|none=>none|some q=>some (x::q.1,q.2)
def Z6:List UInt8→Option (List UInt8×List UInt8)
 |x::y::r=>if x=0∧y=0 then some ([],r) else match Z6 r with|none=>none|some q=>some (x::y::q.1,q.2)
 |_=>none
def ZcQ (w:Nat)(l:List UInt8):Option (List UInt8×List UInt8):=if w=1 then ZaC l else Z6 l
def Zbx:List UInt8→Bool
 |x::y::r=> !(x==0&&y==0)&&Zbx r
 |[]=>true
 |_=>false
theorem Zhx:∀(s r:List UInt8),s.all (· !=0)=true→ZaC (s++0::r)=some (s,r)
 |[],r,_=>by simp [ZaC]
 |x::s,r,h=>by
  simp only [List.all_cons,Bool.and_eq_true] at h;have hx:¬x=0:=by simpa using h.1
  simp [ZaC,hx,Zhx s r h.2]
theorem Zko:∀(s r:List UInt8),Zbx s=true→Z6 (s++0::0::r)=some (s,r)
 |[],r,_=>by simp [Z6]
 |[x],r,h=>by simp [Zbx] at h
 |x::y::s,r,h=>by
  simp only [Zbx,Bool.and_eq_true] at h;have hx:¬(x=0∧y=0):=by
   rintro⟨rfl,rfl⟩;simp at h
  simp [Z6,hx,Zko s r h.2]
def InS.until (s:InS)(w:Nat):List UInt8×InS:=
 if s.e≠0 then([],s) else
 match ZcQ w (s.t.drop s.n) with
 |none=>([],s.short)
 |some q=>(q.1,{s with n:=s.n+q.1.length+w})
theorem InS.until_mk (b:Nat)(p x z r:List UInt8)(w:Nat)(hz:z.length=w)(h:ZcQ w (x++(z++r))=some (x,r)):
 (InS.mk' b p (x++(z++r))).until w=(x,InS.mk' b (p++(x++z)) r):=by
 have hd:(p++(x++(z++r))).drop p.length=x++(z++r):=by simp
 simp only [InS.until,InS.mk',ne_eq,not_true_eq_false,if_false,hd,h];simp [List.append_assoc,←hz,Nat.add_assoc]
inductive Lt where|lang|fmt|mime|kind|desc|text|data
 deriving DecidableEq
structure Pt where
 l:Lt
 raw:Bool
 text:List UInt8
 set:Nat
def Zas (enc:Nat):Nat:=if enc=1∨enc=2 then 2 else 1
def ZaO (wd:List UInt8→Except (Nat×Nat) (List UInt8×Nat))(l:Lt)(b:List UInt8×InS)(k:Nat):Pt×InS:=
 match wd b.1 with
 | .ok t=>(⟨l,false,t.1,t.2⟩,b.2)
 | .error e=>(⟨l,false,[],0⟩,b.2.fail e.1 (k+e.2))
def ZK (enc:Nat)(wd:List UInt8→Except (Nat×Nat) (List UInt8×Nat))(s:InS):Lt→Pt×InS
 | .lang=>let t:=s.take 3;(⟨.lang,true,t.1,0⟩,t.2)
 | .fmt=>let t:=s.take 3;(⟨.fmt,true,t.1,0⟩,t.2)
 | .kind=>let t:=s.take 1;(⟨.kind,true,t.1,0⟩,t.2)
 | .mime=>let t:=s.until 1;(⟨.mime,true,t.1,0⟩,t.2)
 | .desc=>ZaO wd .desc (s.until (Zas enc)) s.at_
 | .text=>ZaO wd .text s.rest s.at_
 | .data=>let t:=s.rest;(⟨.data,true,t.1,0⟩,t.2)
def Zbg (enc:Nat)(wd:List UInt8→Except (Nat×Nat) (List UInt8×Nat)):List Lt→InS→Except (Nat×Nat) (List Pt×InS)
 |[],s=> .ok ([],s)
 |l::r,s=>
  let p:=ZK enc wd s l
  if p.2.e≠0 then .error (p.2.e,p.2.a) else
  match Zbg enc wd r p.2 with
  | .error e=> .error e
  | .ok q=> .ok (p.1::q.1,q.2)
def ZaY (enc:Nat)(en:List UInt8→List UInt8)(p:Pt):List UInt8:=
 match p.l with
 | .mime=>p.text++[0]
 | .desc=>en p.text++List.replicate (Zas enc) 0
 | .text=>en p.text
 |_=>p.text
def Zeb (enc:Nat)(en:List UInt8→List UInt8)(wd:List UInt8→Except (Nat×Nat) (List UInt8×Nat))(p:Pt):Prop:=
 match p.l with
 | .lang| .fmt=>p.raw=true∧p.set=0∧p.text.length=3
 | .kind=>p.raw=true∧p.set=0∧p.text.length=1
 | .mime=>p.raw=true∧p.set=0∧p.text.all (· !=0)=true
 | .desc=>p.raw=false∧wd (en p.text)= .ok (p.text,p.set)∧
  (if Zas enc=1 then(en p.text).all (· !=0)=true else Zbx (en p.text)=true)
 | .text=>p.raw=false∧wd (en p.text)= .ok (p.text,p.set)
 | .data=>p.raw=true∧p.set=0
def Zex:List Lt→Bool
 |[]=>true
 |[_]=>true
 |l::r=> !(l== .text)&& !(l== .data)&&Zex r
theorem Zp4 (enc:Nat)(s r:List UInt8)(h:if Zas enc=1 then s.all (· !=0)=true else Zbx s=true):
 ZcQ (Zas enc) (s++(List.replicate (Zas enc) 0++r))=some (s,r):=by
 by_cases e:enc=1∨enc=2
 · have hw:Zas enc=2:=by simp [Zas,e]
   rw [hw] at h⊢;simpa [ZcQ,List.replicate] using Zko s r (by simpa using h)
 · have hw:Zas enc=1:=by simp [Zas,e]
   rw [hw] at h⊢;simpa [ZcQ,List.replicate] using Zhx s r (by simpa using h)
theorem Zsy (enc:Nat)(en:List UInt8→List UInt8)(wd:List UInt8→Except (Nat×Nat) (List UInt8×Nat))(q:Pt)(ok:Zeb enc en wd q)
 (b:Nat) (p r:List UInt8) (hr:q.l= .text∨q.l= .data→r=[]):
 ZK enc wd (InS.mk' b p (ZaY enc en q++r)) q.l=(q,InS.mk' b (p++ZaY enc en q) r):=by
 obtain⟨l,raw,text,set⟩:=q;cases l
 · obtain⟨h1,h2,h3⟩:=ok;simp only at h1 h2 h3;subst h1 h2;simp only [ZK,ZaY,InS.take_mk' _ _ text r 3 h3]
 · obtain⟨h1,h2,h3⟩:=ok;simp only at h1 h2 h3;subst h1 h2;simp only [ZK,ZaY,InS.take_mk' _ _ text r 3 h3]
 · obtain⟨h1,h2,h3⟩:=ok;simp only at h1 h2 h3;subst h1 h2;have hu:=InS.until_mk b p text [0] r 1 rfl (by simpa [ZcQ] using Zhx text r h3);simp only [ZK,ZaY,List.append_assoc,hu]
 · obtain⟨h1,h2,h3⟩:=ok;simp only at h1 h2 h3;subst h1 h2;simp only [ZK,ZaY,InS.take_mk' _ _ text r 1 h3]
 · obtain⟨h1,h2,h3⟩:=ok;simp only at h1 h2 h3;subst h1;have hu:=InS.until_mk b p (en text) (List.replicate (Zas enc) 0) r (Zas enc) (by simp) (Zp4 enc (en text) r h3);simp only [ZK,ZaY,List.append_assoc,hu,ZaO,h2]
 · obtain⟨h1,h2⟩:=ok;simp only at h1 h2;subst h1;have:=hr (.inl rfl);subst this;simp only [ZK,ZaY,List.append_nil,InS.rest_mk,ZaO,h2]
 · obtain⟨h1,h2⟩:=ok;simp only at h1 h2;subst h1 h2;have:=hr (.inr rfl);subst this;simp only [ZK,ZaY,List.append_nil,InS.rest_mk]
theorem Zl2 (enc:Nat)(en:List UInt8→List UInt8)(wd:List UInt8→Except (Nat×Nat) (List UInt8×Nat)):
 ∀(ps:List Pt),(∀q∈ps,Zeb enc en wd q)→Zex (ps.map (·.l))=true→∀(b:Nat) (p:List UInt8),
 Zbg enc wd (ps.map (·.l)) (InS.mk' b p (ps.map (ZaY enc en)).flatten)= .ok (ps,InS.mk' b (p++(ps.map (ZaY enc en)).flatten) [])
 |[],_,_,b,p=>by simp [Zbg]
 |q::ps,hk,hl,b,p=>by
  have ez:∀b x y,(InS.mk' b x y).e=0:=fun _ _ _=>rfl;have hr:q.l= .text∨q.l= .data→(ps.map (ZaY enc en)).flatten=[]:=by
   intro h;cases ps with
   |nil=>rfl
   |cons q2 ps=>
    simp only [List.map_cons,Zex,Bool.and_eq_true] at hl;rcases h with h|h<;>rw [h] at hl<;>simp at hl
  have hl2:Zex (ps.map (·.l))=true:=by
   cases ps with
   |nil=>rfl
   |cons q2 ps=>
    simp only [List.map_cons,Zex,Bool.and_eq_true] at hl;exact hl.2
  have ih:=Zl2 enc en wd ps (fun x hx=>hk x (by simp [hx])) hl2 b (p++ZaY enc en q);simp only [List.map_cons,List.flatten_cons,Zbg,Zsy enc en wd q (hk q (by simp)) b p _ hr,ez,ne_eq,not_true_eq_false,if_false,ih,List.append_assoc]
def Zd (v:Nat)(id:List UInt8):List Lt:=
 if v=2 then
  if id=[84,88,88] then [.desc,.text]
  else if id=[67,79,77]∨id=[85,76,84] then [.lang,.desc,.text]
  else if id=[87,88,88] then [.desc,.data]
  else if id=[80,73,67] then [.fmt,.kind,.desc,.data]
  else if id.length=3∧id.head? =some 84 then [.text] else []
 else if v=3∨v=4 then
  if id=[84,88,88,88] then [.desc,.text]
  else if id=[67,79,77,77]∨id=[85,83,76,84] then [.lang,.desc,.text]
  else if id=[87,88,88,88] then [.desc,.data]
  else if id=[65,80,73,67] then [.mime,.kind,.desc,.data]
  else if id.length=4∧id.head? =some 84 then [.text] else []
 else []
theorem ZrA (v:Nat)(id:List UInt8):Zex (Zd v id)=true:=by
 unfold Zd
 (repeat' split)<;>rfl
def Zdj (v enc:Nat):Bool:=decide (enc≤1)||(v==4&&decide (enc≤3))
def Zcf (wd:Nat→List UInt8→Except (Nat×Nat) (List UInt8×Nat))(v:Nat)(id body:List UInt8):Except (Nat×Nat) (List Pt):=
 if Zd v id=[] then .ok [⟨.data,true,body,0⟩] else
 let e:=(⟨body,0,0,0,0⟩:InS).big 1
 if e.2.e≠0 then .error (e.2.e,e.2.a) else
 if Zdj v e.1=false then .error (1,0) else
 match Zbg e.1 (wd e.1) (Zd v id) e.2 with
 | .error x=> .error x
 | .ok q=> .ok q.1
def Zo (v:Nat):Nat:=if v=4 then 3 else 1
def ZhI (en:Nat→List UInt8→List UInt8)(v:Nat)(id:List UInt8)(ps:List Pt):List UInt8:=
 if Zd v id=[] then(match ps with|[]=>[]|p::_=>p.text) else UInt8.ofNat (Zo v)::(ps.map (ZaY (Zo v) (en (Zo v)))).flatten
theorem ZqE (en:Nat→List UInt8→List UInt8)(wd:Nat→List UInt8→Except (Nat×Nat) (List UInt8×Nat))(v:Nat)(id:List UInt8)(ps:List Pt)
 (hl:ps.map (·.l)=Zd v id) (h0:Zd v id≠[]) (hk:∀q∈ps,Zeb (Zo v) (en (Zo v)) (wd (Zo v)) q):
 Zcf wd v id (ZhI en v id ps)= .ok ps:=by
 have ez:∀b x y,(InS.mk' b x y).e=0:=fun _ _ _=>rfl;have he:(UInt8.ofNat (Zo v)).toNat=Zo v:=by unfold Zo;split<;>rfl
 have hm:Zdj v (Zo v)=true:=by
  unfold Zdj Zo;by_cases h:v=4<;>simp [h]
 have st:∀l,(⟨l,0,0,0,0⟩:InS)=InS.mk' 0 [] l:=fun _=>rfl;have hp:=Zl2 (Zo v) (en (Zo v)) (wd (Zo v)) ps hk (by rw [hl];exact ZrA v id) 0 ([]++[UInt8.ofNat (Zo v)]);rw [hl] at hp;simp only [Zcf,ZhI,if_neg h0,st,ZfW,ez,ne_eq,not_true_eq_false,if_false,he,hm,Bool.true_eq_false,hp]
end Go.Proofs.YtecandjkbbpooaaGreatDoor
