/- Lemmas for TopVersions; conditions: as each says. -/
import Derived.Test.YtlhllehffkoloaaGreatDoorM20
import Derived.Test.YtlhllehffkoloaaGreatDoorM23
set_option linter.unusedVariables false
set_option linter.unusedSimpArgs false
set_option maxRecDepth 100000
set_option maxHeartbeats 200000
namespace Go.Proofs.YtlhllehffkoloaaGreatDoor
open Go
def namesL:List (List (List UInt8)):=[[[108,97,116,105,110,49],[105,115,111,45,56,56,53,57,45,49],[108,97,116,105,110,45,49]],
 [[107,111,105,56,45,114],[107,111,105,56,114],[]],
 [[107,111,105,56,45,117],[107,111,105,56,117],[]],
 [[99,112,56,54,54],[105,98,109,56,54,54],[]],
 [[99,112,57,52,57],[101,117,99,45,107,114],[117,104,99]],
 [[106,111,104,97,98],[99,112,49,51,54,49],[]],
 [[98,105,103,53,45,104,107,115,99,115],[98,105,103,53],[]],
 [[117,116,102,45,56],[117,116,102,56],[]],
 [[117,116,102,45,49,54,108,101],[117,116,102,49,54,108,101],[]],
 [[117,116,102,45,49,54,98,101],[117,116,102,49,54,98,101],[]]]
def findN (l:List UInt8):List (List (List UInt8))→Nat→Option Nat
 |[],_=>none
 |r::q,c=>if l∈r then some c else findN l q (c+1)
def namedL (l:List UInt8):Option Nat:=if l=[] then none else findN (smallL l) namesL 0
noncomputable def Zcv (a b:UInt8):Int:=Classical.choose (Zob a.toNat b.toNat)
theorem Zoy (a b:UInt8):Zaf a.toNat b.toNat (Zcv a b):=Classical.choose_spec (Zob a.toNat b.toNat)
theorem Zox {a b:UInt8} {p:Int} (h:Zaf a.toNat b.toNat p):Zcv a b=p:=Zoc (Zoy a b) h
noncomputable def sg2 (c:Nat)(a b:UInt8):List Int:=
 if c=4 then(if Zcv a b≠0∧Zi (Zcv a b)=true then [Zcv a b] else []) else if c=5 then(if ZaE ((a.toNat*256+b.toNat:Nat):Int)=0 then [] else [ZaE ((a.toNat*256+b.toNat:Nat):Int)]) else ZaJ a.toNat b.toNat
theorem Zoo (a b:Int):∀l:List (Int×Int×Int),(ZbY l a b).length≤2
 |[]=>by simp [ZbY]
 |x::l=>by
  have ih:=Zoo a b l;simp only [ZbY];split
  · simp
  · exact ih
theorem Zvj (c:Nat)(a b:UInt8):(sg2 c a b).length≤2:=by
 have h:=Zoo a.toNat b.toNat TW;unfold sg2;generalize ZaE ((a.toNat*256+b.toNat:Nat):Int)=J at*;split
 · split<;>simp
 · split
   · split<;>simp
   · unfold ZaJ ZbG;split
     · simp
     · exact h
noncomputable def Z9 (c:Nat)(l:List UInt8):ZaR:=
 if c≤3 then .inl (l.map fun x=>ZbD c x.toNat) else if c≤6 then Zu (sg2 c) l 0 else if c=7 then Zb0 l else Zbh (c==9) l
def ZmM (p:Int):Bool:=decide ((1072≤p∧p≤1119)∨p=1169)
def Zln (p:Int):Bool:=decide ((1024≤p∧p≤1071)∨p=1168)
def plainW (p:Int):Int:=if p=9∨p=10∨p=13 then 0 else if p<32∨p=127 then -6 else 0
def latinW (p:Int):Int:=if p<160 then -8 else if p≤191∨p=215∨p=247 then -1 else 1
def Zu6 (p:Int):Int:=if ZmM p then 4 else if Zln p then 2 else -4
def Zts (p:Int):Int:=if 44032≤p∧p≤55203 then(if Z4 (p - 44032).toNat then 6 else 2) else if 12593≤p∧p≤12686 then -2 else 1
def ZrH (p:Int):Int:=if 19968≤p∧p≤40959 then 5 else 1
def Zwh (c:Nat)(p:Int):Int:=
 if p<128 then plainW p else if c=0 then latinW p else if c≤3 then Zu6 p else if c=4∨c=5 then Zts p else ZrH p
def ZnX (c:Nat):List Int→Bool→Int
 |[],_=>0
 |p::r,s=>Zwh c p+(if s&&Zln p then -3 else 0)+ZnX c r (ZmM p)
noncomputable def scoreL (c:Nat)(l:List UInt8):Option Int:=
 if c≤6 then(match Z9 c l with| .inl ps=>some (ZnX c ps false)| .inr _=>none) else none
noncomputable def Zms (l:List UInt8):List Nat→Int×Nat×Bool→Int×Nat×Bool
 |[],g=>g
 |c::r,g=>Zms l r (match scoreL c l with|some s=>if g.1<s then(s,c,true) else g|none=>g)
def orderL:List Nat:=[4,6,5,1,2,3,0]
noncomputable def guessL (l:List UInt8):Option Nat:=let g:=Zms l orderL (0,0,false);if g.2.2 then some g.2.1 else none
def ZP (l:List UInt8):Bool:=match Zb0 l with| .inl _=>true| .inr _=>false
noncomputable def ZnO (l declared:List UInt8)(fb:Nat)(det:Bool):Nat:=
 if ZP l then 7 else match namedL declared with
 |some c=>c
 |none=>if det then(match guessL l with|some c=>c|none=>fb) else fb
end Go.Proofs.YtlhllehffkoloaaGreatDoor
