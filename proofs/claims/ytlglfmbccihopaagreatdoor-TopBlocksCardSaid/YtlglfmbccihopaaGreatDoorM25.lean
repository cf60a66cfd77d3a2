/- Lemmas for a statement on the tops; conditions: as each says. -/
import Derived.Test.YtlglfmbccihopaaGreatDoorM17
import Derived.Test.YtlglfmbccihopaaGreatDoorM19
set_option linter.unusedVariables false
set_option linter.unusedSimpArgs false
set_option maxRecDepth 100000
set_option maxHeartbeats 200000
namespace Go.Proofs.YtlglfmbccihopaaGreatDoor
open Go
def Zak:List (List (List UInt8)):=[[[108,97,116,105,110,49],[105,115,111,45,56,56,53,57,45,49],[108,97,116,105,110,45,49]],
 [[107,111,105,56,45,114],[107,111,105,56,114],[]],
 [[107,111,105,56,45,117],[107,111,105,56,117],[]],
 [[99,112,56,54,54],[105,98,109,56,54,54],[]],
 [[99,112,57,52,57],[101,117,99,45,107,114],[117,104,99]],
 [[106,111,104,97,98],[99,112,49,51,54,49],[]],
 [[98,105,103,53,45,104,107,115,99,115],[98,105,103,53],[]],
 [[117,116,102,45,56],[117,116,102,56],[]],
 [[117,116,102,45,49,54,108,101],[117,116,102,49,54,108,101],[]],
 [[117,116,102,45,49,54,98,101],[117,116,102,49,54,98,101],[]]]
def Zai (l:List UInt8):List (List (List UInt8))→Nat→Option Nat
 |[],_=>none
 |r::q,c=>if l∈r then some c else Zai l q (c+1)
def Zdd (l:List UInt8):Option Nat:=if l=[] then none else Zai (ZbV l) Zak 0
noncomputable def ZbY (a b:UInt8):Int:=Classical.choose (ZmW a.toNat b.toNat)
theorem Znq (a b:UInt8):ZS a.toNat b.toNat (ZbY a b):=Classical.choose_spec (ZmW a.toNat b.toNat)
theorem Znp {a b:UInt8} {p:Int} (h:ZS a.toNat b.toNat p):ZbY a b=p:=ZmX (Znq a b) h
noncomputable def sg2 (c:Nat)(a b:UInt8):List Int:=
 if c=4 then(if ZbY a b≠0∧Zf (ZbY a b)=true then [ZbY a b] else []) else if c=5 then(if Z6 ((a.toNat*256+b.toNat:Nat):Int)=0 then [] else [Z6 ((a.toNat*256+b.toNat:Nat):Int)]) else Zbe a.toNat b.toNat
theorem ZtJ (a b:Int):∀p∈ZbW a b,Zf p=true:=by
 have h:∀l:List (Int×Int×Int),l.all (fun x=>Zf x.2.1&&Zf x.2.2)=true→∀p∈Zbj l a b,Zf p=true:=by
  intro l;induction l with
  |nil=>intro _ p hp;simp [Zbj] at hp
  |cons x l ih=>
   intro h p hp;simp only [List.all_cons,Bool.and_eq_true] at h;simp only [Zbj] at hp;split at hp
   · simp only [List.mem_cons,List.not_mem_nil,or_false] at hp;rcases hp with rfl|rfl
     · exact h.1.1
     · exact h.1.2
   · exact ih (by simpa using h.2) p hp
 exact h TW (by decide+kernel)
theorem Zs0 (c:Nat)(a b:UInt8):∀p∈sg2 c a b,Zf p=true:=by
 intro p hp;have hj:=Zlg ((a.toNat*256+b.toNat:Nat):Int);unfold sg2 at hp;generalize Z6 ((a.toNat*256+b.toNat:Nat):Int)=J at*;split at hp
 · split at hp
   · rename_i h;simp only [List.mem_singleton] at hp;subst hp;exact h.2
   · simp at hp
 · split at hp
   · split at hp
     · simp at hp
     · rename_i h;simp only [List.mem_singleton] at hp;subst hp;exact hj h
   · unfold Zbe at hp;split at hp
     · rename_i h;simp only [List.mem_singleton] at hp;subst hp;exact ZlW h
     · exact ZtJ _ _ p hp
theorem Zni (a b:Int):∀l:List (Int×Int×Int),(Zbj l a b).length≤2
 |[]=>by simp [Zbj]
 |x::l=>by
  have ih:=Zni a b l;simp only [Zbj];split
  · simp
  · exact ih
theorem ZmR (c:Nat)(a b:UInt8):(sg2 c a b).length≤2:=by
 have h:=Zni a.toNat b.toNat TW;unfold sg2;generalize Z6 ((a.toNat*256+b.toNat:Nat):Int)=J at*;split
 · split<;>simp
 · split
   · split<;>simp
   · unfold Zbe ZbW;split
     · simp
     · exact h
noncomputable def ZC (c:Nat)(l:List UInt8):Za4:=
 if c≤3 then .inl (l.map fun x=>ZaR c x.toNat) else if c≤6 then Zj (sg2 c) l 0 else if c=7 then Zce l else ZbX (c==9) l
def Zct (p:Int):Bool:=decide ((1072≤p∧p≤1119)∨p=1169)
def Zco (p:Int):Bool:=decide ((1024≤p∧p≤1071)∨p=1168)
def ZdR (p:Int):Int:=if p=9∨p=10∨p=13 then 0 else if p<32∨p=127 then -6 else 0
def ZdK (p:Int):Int:=if p<160 then -8 else if p≤191∨p=215∨p=247 then -1 else 1
def Zdo (p:Int):Int:=if Zct p then 4 else if Zco p then 2 else -4
def ZbR (p:Int):Int:=if 44032≤p∧p≤55203 then(if ZF (p - 44032).toNat then 6 else 2) else if 12593≤p∧p≤12686 then -2 else 1
def Zdv (p:Int):Int:=if 19968≤p∧p≤40959 then 5 else 1
def ZbK (c:Nat)(p:Int):Int:=
 if p<128 then ZdR p else if c=0 then ZdK p else if c≤3 then Zdo p else if c=4∨c=5 then ZbR p else Zdv p
def ZbI (c:Nat):List Int→Bool→Int
 |[],_=>0
 |p::r,s=>ZbK c p+(if s&&Zco p then -3 else 0)+ZbI c r (Zct p)
noncomputable def ZeD (c:Nat)(l:List UInt8):Option Int:=
 if c≤6 then(match ZC c l with| .inl ps=>some (ZbI c ps false)| .inr _=>none) else none
noncomputable def ZK (l:List UInt8):List Nat→Int×Nat×Bool→Int×Nat×Bool
 |[],g=>g
 |c::r,g=>ZK l r (match ZeD c l with|some s=>if g.1<s then(s,c,true) else g|none=>g)
def Zbw:List Nat:=[4,6,5,1,2,3,0]
noncomputable def ZfB (l:List UInt8):Option Nat:=let g:=ZK l Zbw (0,0,false);if g.2.2 then some g.2.1 else none
def Zcf (l:List UInt8):Bool:=match Zce l with| .inl _=>true| .inr _=>false
noncomputable def Zcd (l declared:List UInt8)(fb:Nat)(det:Bool):Nat:=
 if Zcf l then 7 else match Zdd declared with
 |some c=>c
 |none=>if det then(match ZfB l with|some c=>c|none=>fb) else fb
theorem Zt2 (c:Nat)(p:Int): -8≤ZbK c p∧ZbK c p≤6:=by
 unfold ZbK ZdR ZdK Zdo ZbR Zdv;(repeat' split)<;>omega
end Go.Proofs.YtlglfmbccihopaaGreatDoor
