/- Lemmas for a statement on the tops; conditions: as each says. -/
import Derived.Test.YtjilfbhkdjanhaaGreatDoorM20
import Derived.Test.YtjilfbhkdjanhaaGreatDoorM22
set_option linter.all false
set_option maxRecDepth 100000
set_option maxHeartbeats 200000
namespace Go.Proofs.YtjilfbhkdjanhaaGreatDoor
open Go
def ZaM:List (List (List UInt8)):=[[[108,97,116,105,110,49],[105,115,111,45,56,56,53,57,45,49],[108,97,116,105,110,45,49]],
 [[107,111,105,56,45,114],[107,111,105,56,114],[]],
 [[107,111,105,56,45,117],[107,111,105,56,117],[]],
 [[99,112,56,54,54],[105,98,109,56,54,54],[]],
 [[99,112,57,52,57],[101,117,99,45,107,114],[117,104,99]],
 [[106,111,104,97,98],[99,112,49,51,54,49],[]],
 [[98,105,103,53,45,104,107,115,99,115],[98,105,103,53],[]],
 [[117,116,102,45,56],[117,116,102,56],[]],
 [[117,116,102,45,49,54,108,101],[117,116,102,49,54,108,101],[]],
 [[117,116,102,45,49,54,98,101],[117,116,102,49,54,98,101],[]]]
def ZaL(l:List UInt8):List (List (List UInt8))->Nat->Option Nat
 |[],_=>none
 |r::q,c=>if l∈r then some c else ZaL l q (c+1)
def Zev(l:List UInt8):Option Nat:=if l=[] then none else ZaL (ZcU l) ZaM 0
noncomputable def Zea(a b:UInt8):Int:=Classical.choose (Zo9 a.toNat b.toNat)
def Zxt(a b:UInt8):Za4 a.toNat b.toNat (Zea a b):=Classical.choose_spec (Zo9 a.toNat b.toNat)
noncomputable def sg2(c:Nat)(a b:UInt8):List Int:=
 if c=4 then(if Zea a b≠0/\Zm (Zea a b)=true then [Zea a b] else []) else if c=5 then(if ZaX ((a.toNat*256+b.toNat:Nat):Int)=0 then [] else [ZaX ((a.toNat*256+b.toNat:Nat):Int)]) else ZcT a.toNat b.toNat
def Zxd(a b:Int):∀p∈ZcW a b,Zm p=true:=by
 have h:∀l:List (Int×Int×Int),l.all (λx=>Zm x.2.1&&Zm x.2.2)=true->∀p∈Zb2 l a b,Zm p=true:=by
  intro l;induction l with
  |nil=>intro _ p j;simp[Zb2] at j
  |cons x l q=>
   intro h p j;simp only[List.all_cons,Bool.and_eq_true] at h;simp only[Zb2] at j;split at j
   ·simp only[List.mem_cons,List.not_mem_nil,or_false] at j;rcases j with rfl|rfl
    ·exact h.1.1
    ·exact h.1.2
   ·exact q (by simpa using h.2) p j
 exact h TW (by decide+kernel)
def Zwx(c:Nat)(a b:UInt8):∀p∈sg2 c a b,Zm p=true:=by
 intro p j;have q:=Znm ((a.toNat*256+b.toNat:Nat):Int);unfold sg2 at j;generalize ZaX ((a.toNat*256+b.toNat:Nat):Int)=J at*;split at j
 ·split at j
  ·rename_i h;simp only[List.mem_singleton] at j;subst j;exact h.2
  ·simp at j
 ·split at j
  ·split at j
   ·simp at j
   ·rename_i h;simp only[List.mem_singleton] at j;subst j;exact q h
  ·unfold ZcT at j;split at j
   ·rename_i h;simp only[List.mem_singleton] at j;subst j;exact ZnU h
   ·exact Zxd _ _ p j
def Zpn(a b:Int):∀l:List (Int×Int×Int),(Zb2 l a b).length<=2
 |[]=>by simp[Zb2]
 |x::l=>by
  have j:=Zpn a b l;simp only[Zb2];split
  ·simp
  ·exact j
def Zo2(c:Nat)(a b:UInt8):(sg2 c a b).length<=2:=by
 have h:=Zpn a.toNat b.toNat TW;unfold sg2;generalize ZaX ((a.toNat*256+b.toNat:Nat):Int)=J at*;split
 ·split<;>simp
 ·split
  ·split<;>simp
  ·unfold ZcT ZcW;split
   ·simp
   ·exact h
noncomputable def ZZ(c:Nat)(l:List UInt8):Zay:=
 if c<=3 then .inl (l.map λx=>Zbj c x.toNat) else if c<=6 then Zr (sg2 c) l 0 else if c=7 then ZcX l else ZbO (c==9) l
def Zdv(p:Int):Bool:=decide ((1072<=p/\p<=1119)\/p=1169)
def Zdq(p:Int):Bool:=decide ((1024<=p/\p<=1071)\/p=1168)
def Zfp(p:Int):Int:=if p=9\/p=10\/p=13 then 0 else if p<32\/p=127 then -6 else 0
def Zfh(p:Int):Int:=if p<160 then -8 else if p<=191\/p=215\/p=247 then -1 else 1
def ZeH(p:Int):Int:=if Zdv p then 4 else if Zdq p then 2 else -4
def ZcP(p:Int):Int:=if 44032<=p/\p<=55203 then(if ZaD (p - 44032).toNat then 6 else 2) else if 12593<=p/\p<=12686 then -2 else 1
def ZeZ(p:Int):Int:=if 19968<=p/\p<=40959 then 5 else 1
def ZcH(c:Nat)(p:Int):Int:=
 if p<128 then Zfp p else if c=0 then Zfh p else if c<=3 then ZeH p else if c=4\/c=5 then ZcP p else ZeZ p
def ZcE(c:Nat):List Int->Bool->Int
 |[],_=>0
 |p::r,s=>ZcH c p+(if s&&Zdq p then -3 else 0)+ZcE c r (Zdv p)
noncomputable def Zgr(c:Nat)(l:List UInt8):Option Int:=
 if c<=6 then(match ZZ c l with| .inl ps=>some (ZcE c ps false)| .inr _=>none) else none
noncomputable def Z5(l:List UInt8):List Nat->Int×Nat×Bool->Int×Nat×Bool
 |[],g=>g
 |c::r,g=>Z5 l r (match Zgr c l with|some s=>if g.1<s then(s,c,true) else g|none=>g)
def Zco:List Nat:=[4,6,5,1,2,3,0]
noncomputable def Zho(l:List UInt8):Option Nat:=let g:=Z5 l Zco (0,0,false);if g.2.2 then some g.2.1 else none
def Zcr(l:List UInt8):Bool:=match ZcX l with| .inl _=>true| .inr _=>false
noncomputable def Zde(l j:List UInt8)(fb:Nat)(det:Bool):Nat:=
 if Zcr l then 7 else match Zev j with
 |some c=>c
 |none=>if det then(match Zho l with|some c=>c|none=>fb) else fb
def Zxw(c:Nat)(p:Int): -8<=ZcH c p/\ZcH c p<=6:=by
 unfold ZcH Zfp Zfh ZeH ZcP ZeZ;(repeat' split)<;>omega
