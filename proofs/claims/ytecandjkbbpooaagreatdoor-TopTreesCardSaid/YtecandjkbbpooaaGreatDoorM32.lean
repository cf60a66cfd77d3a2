/- Lemmas for a statement on the tops; conditions: as each says. -/
import Derived.Test.YtecandjkbbpooaaGreatDoorM23
import Derived.Test.YtecandjkbbpooaaGreatDoorM25
set_option linter.unusedVariables false
set_option linter.unusedSimpArgs false
set_option maxRecDepth 100000
set_option maxHeartbeats 200000
namespace Go.Proofs.YtecandjkbbpooaaGreatDoor
open Go
def namesL:List (List (List UInt8)):=[[[108,97,116,105,110,49],[105,115,111,45,56,56,53,57,45,49],[108,97,116,105,110,45,49]],
 [[107,111,105,56,45,114],[107,111,105,56,114],[]],
 [[107,111,105,56,45,117],[107,111,105,56,117],[]],
 [[99,112,56,54,54],[105,98,109,56,54,54],[]],
 [[99,112,57,52,57],[101,117,99,45,107,114],[117,104,99]],
 [[106,111,104,97,98],[99,112,49,51,54,49],[]],
 [[98,105,103,53,45,104,107,115,99,115],[98,105,103,53],[]],
 [[117,116,102,45,56],[117,116,102,56],[]],
 [[117,116,102,45,49,54,108,101],[117,116,102,49,54,108,101],[]],
 [[117,116,102,45,49,54,98,101],[117,116,102,49,54,98,101],[]]]
def findN (l:List UInt8):List (List (List UInt8))→Nat→Option Nat
 |[],_=>none
 |r::q,c=>if l∈r then some c else findN l q (c+1)
def namedL (l:List UInt8):Option Nat:=if l=[] then none else findN (smallL l) namesL 0
noncomputable def wanZ (a b:UInt8):Int:=Classical.choose (Ztj a.toNat b.toNat)
noncomputable def sg2 (c:Nat)(a b:UInt8):List Int:=
 if c=4 then(if wanZ a b≠0∧Zv (wanZ a b)=true then [wanZ a b] else []) else if c=5 then(if johZ ((a.toNat*256+b.toNat:Nat):Int)=0 then [] else [johZ ((a.toNat*256+b.toNat:Nat):Int)]) else Zdv a.toNat b.toNat
noncomputable def Zcv (c:Nat)(l:List UInt8):ZaB:=
 if c≤3 then .inl (l.map fun x=>Zby c x.toNat) else if c≤6 then Zy (sg2 c) l 0 else if c=7 then Zcl l else ZbY (c==9) l
def Zli (p:Int):Bool:=decide ((1072≤p∧p≤1119)∨p=1169)
def Zkb (p:Int):Bool:=decide ((1024≤p∧p≤1071)∨p=1168)
def plainW (p:Int):Int:=if p=9∨p=10∨p=13 then 0 else if p<32∨p=127 then -6 else 0
def latinW (p:Int):Int:=if p<160 then -8 else if p≤191∨p=215∨p=247 then -1 else 1
def Zs9 (p:Int):Int:=if Zli p then 4 else if Zkb p then 2 else -4
def Zrv (p:Int):Int:=if 44032≤p∧p≤55203 then(if Za0 (p - 44032).toNat then 6 else 2) else if 12593≤p∧p≤12686 then -2 else 1
def ZpP (p:Int):Int:=if 19968≤p∧p≤40959 then 5 else 1
def Zuc (c:Nat)(p:Int):Int:=
 if p<128 then plainW p else if c=0 then latinW p else if c≤3 then Zs9 p else if c=4∨c=5 then Zrv p else ZpP p
def Zmz (c:Nat):List Int→Bool→Int
 |[],_=>0
 |p::r,s=>Zuc c p+(if s&&Zkb p then -3 else 0)+Zmz c r (Zli p)
noncomputable def scoreL (c:Nat)(l:List UInt8):Option Int:=
 if c≤6 then(match Zcv c l with| .inl ps=>some (Zmz c ps false)| .inr _=>none) else none
noncomputable def Zk6 (l:List UInt8):List Nat→Int×Nat×Bool→Int×Nat×Bool
 |[],g=>g
 |c::r,g=>Zk6 l r (match scoreL c l with|some s=>if g.1<s then(s,c,true) else g|none=>g)
def orderL:List Nat:=[4,6,5,1,2,3,0]
noncomputable def guessL (l:List UInt8):Option Nat:=let g:=Zk6 l orderL (0,0,false);if g.2.2 then some g.2.1 else none
def Zbz (l:List UInt8):Bool:=match Zcl l with| .inl _=>true| .inr _=>false
noncomputable def Zmr (l declared:List UInt8)(fb:Nat)(det:Bool):Nat:=
 if Zbz l then 7 else match namedL declared with
 |some c=>c
 |none=>if det then(match guessL l with|some c=>c|none=>fb) else fb
end Go.Proofs.YtecandjkbbpooaaGreatDoor
