/- Lemmas for a statement on the tops; conditions: as each says. -/
import Derived.Test.YtlfinljfghhpdaaGreatDoorM19
import Derived.Test.YtlfinljfghhpdaaGreatDoorM21
set_option linter.unusedVariables false
set_option linter.unusedSimpArgs false
set_option maxRecDepth 100000
set_option maxHeartbeats 200000
namespace Go.Proofs.YtlfinljfghhpdaaGreatDoor
open Go
def Zau:List (List (List UInt8)):=[[[108,97,116,105,110,49],[105,115,111,45,56,56,53,57,45,49],[108,97,116,105,110,45,49]],
 [[107,111,105,56,45,114],[107,111,105,56,114],[]],
 [[107,111,105,56,45,117],[107,111,105,56,117],[]],
 [[99,112,56,54,54],[105,98,109,56,54,54],[]],
 [[99,112,57,52,57],[101,117,99,45,107,114],[117,104,99]],
 [[106,111,104,97,98],[99,112,49,51,54,49],[]],
 [[98,105,103,53,45,104,107,115,99,115],[98,105,103,53],[]],
 [[117,116,102,45,56],[117,116,102,56],[]],
 [[117,116,102,45,49,54,108,101],[117,116,102,49,54,108,101],[]],
 [[117,116,102,45,49,54,98,101],[117,116,102,49,54,98,101],[]]]
def ZaK (l:List UInt8):List (List (List UInt8))→Nat→Option Nat
 |[],_=>none
 |r::q,c=>if l∈r then some c else ZaK l q (c+1)
def ZcY (l:List UInt8):Option Nat:=if l=[] then none else ZaK (Zb5 l) Zau 0
noncomputable def Zcp (a b:UInt8):Int:=Classical.choose (Ziq a.toNat b.toNat)
theorem ZnC (a b:UInt8):Z2 a.toNat b.toNat (Zcp a b):=Classical.choose_spec (Ziq a.toNat b.toNat)
theorem ZuQ {a b:UInt8} {p:Int} (h:Z2 a.toNat b.toNat p):Zcp a b=p:=Znb (ZnC a b) h
noncomputable def sg2 (c:Nat)(a b:UInt8):List Int:=
 if c=4 then(if Zcp a b≠0∧Ze (Zcp a b)=true then [Zcp a b] else []) else if c=5 then(if ZZ ((a.toNat*256+b.toNat:Nat):Int)=0 then [] else [ZZ ((a.toNat*256+b.toNat:Nat):Int)]) else Z5 a.toNat b.toNat
theorem Zuz (a b:Int):∀p∈Za6 a b,Ze p=true:=by
 have h:∀l:List (Int×Int×Int),l.all (fun x=>Ze x.2.1&&Ze x.2.2)=true→∀p∈ZaW l a b,Ze p=true:=by
  intro l;induction l with
  |nil=>intro _ p hp;simp [ZaW] at hp
  |cons x l ih=>
   intro h p hp;simp only [List.all_cons,Bool.and_eq_true] at h;simp only [ZaW] at hp;split at hp
   · simp only [List.mem_cons,List.not_mem_nil,or_false] at hp;rcases hp with rfl|rfl
     · exact h.1.1
     · exact h.1.2
   · exact ih (by simpa using h.2) p hp
 exact h TW (by decide+kernel)
theorem ZtQ (c:Nat)(a b:UInt8):∀p∈sg2 c a b,Ze p=true:=by
 intro p hp;have hj:=Zlr ((a.toNat*256+b.toNat:Nat):Int);unfold sg2 at hp;generalize ZZ ((a.toNat*256+b.toNat:Nat):Int)=J at*;split at hp
 · split at hp
   · rename_i h;simp only [List.mem_singleton] at hp;subst hp;exact h.2
   · simp at hp
 · split at hp
   · split at hp
     · simp at hp
     · rename_i h;simp only [List.mem_singleton] at hp;subst hp;exact hj h
   · unfold Z5 at hp;split at hp
     · rename_i h;simp only [List.mem_singleton] at hp;subst hp;exact Zl3 h
     · exact Zuz _ _ p hp
theorem Znu (a b:Int):∀l:List (Int×Int×Int),(ZaW l a b).length≤2
 |[]=>by simp [ZaW]
 |x::l=>by
  have ih:=Znu a b l;simp only [ZaW];split
  · simp
  · exact ih
theorem Zm5 (c:Nat)(a b:UInt8):(sg2 c a b).length≤2:=by
 have h:=Znu a.toNat b.toNat TW;unfold sg2;generalize ZZ ((a.toNat*256+b.toNat:Nat):Int)=J at*;split
 · split<;>simp
 · split
   · split<;>simp
   · unfold Z5 Za6;split
     · simp
     · exact h
noncomputable def Zbb (c:Nat)(l:List UInt8):ZaO:=
 if c≤3 then .inl (l.map fun x=>ZJ c x.toNat) else if c≤6 then Zk (sg2 c) l 0 else if c=7 then ZcL l else Zco (c==9) l
def ZcH (p:Int):Bool:=decide ((1072≤p∧p≤1119)∨p=1169)
def Zcz (p:Int):Bool:=decide ((1024≤p∧p≤1071)∨p=1168)
def Zd7 (p:Int):Int:=if p=9∨p=10∨p=13 then 0 else if p<32∨p=127 then -6 else 0
def ZdY (p:Int):Int:=if p<160 then -8 else if p≤191∨p=215∨p=247 then -1 else 1
def ZdF (p:Int):Int:=if ZcH p then 4 else if Zcz p then 2 else -4
def Zb0 (p:Int):Int:=if 44032≤p∧p≤55203 then(if Zn (p - 44032).toNat then 6 else 2) else if 12593≤p∧p≤12686 then -2 else 1
def ZdN (p:Int):Int:=if 19968≤p∧p≤40959 then 5 else 1
def ZbS (c:Nat)(p:Int):Int:=
 if p<128 then Zd7 p else if c=0 then ZdY p else if c≤3 then ZdF p else if c=4∨c=5 then Zb0 p else ZdN p
def ZbQ (c:Nat):List Int→Bool→Int
 |[],_=>0
 |p::r,s=>ZbS c p+(if s&&Zcz p then -3 else 0)+ZbQ c r (ZcH p)
noncomputable def ZeM (c:Nat)(l:List UInt8):Option Int:=
 if c≤6 then(match Zbb c l with| .inl ps=>some (ZbQ c ps false)| .inr _=>none) else none
noncomputable def Zad (l:List UInt8):List Nat→Int×Nat×Bool→Int×Nat×Bool
 |[],g=>g
 |c::r,g=>Zad l r (match ZeM c l with|some s=>if g.1<s then(s,c,true) else g|none=>g)
def Zcj:List Nat:=[4,6,5,1,2,3,0]
noncomputable def ZfD (l:List UInt8):Option Nat:=let g:=Zad l Zcj (0,0,false);if g.2.2 then some g.2.1 else none
def Zdt (l:List UInt8):Nat×Nat:=if Lib.hasPrefix l [239,187,191] then(7,3) else if Lib.hasPrefix l [255,254] then(8,2) else if Lib.hasPrefix l [254,255] then(9,2) else(0,0)
def Zap (l:List UInt8):Bool:=match ZcL l with| .inl _=>true| .inr _=>false
noncomputable def ZdC (l declared:List UInt8)(fb:Nat)(det:Bool):Nat:=
 if Zap l then 7 else match ZcY declared with
 |some c=>c
 |none=>if det then(match ZfD l with|some c=>c|none=>fb) else fb
theorem ZuR (c:Nat)(p:Int): -8≤ZbS c p∧ZbS c p≤6:=by
 unfold ZbS Zd7 ZdY ZdF Zb0 ZdN;(repeat' split)<;>omega
end Go.Proofs.YtlfinljfghhpdaaGreatDoor
