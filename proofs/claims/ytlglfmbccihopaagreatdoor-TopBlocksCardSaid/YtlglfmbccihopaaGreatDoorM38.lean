/- Lemmas for a statement on the tops; conditions: as each says. -/
import Derived.Test.YtlglfmbccihopaaGreatDoorM10
import Derived.Test.YtlglfmbccihopaaGreatDoorM26
set_option linter.unusedVariables false
set_option linter.unusedSimpArgs false
set_option maxRecDepth 100000
set_option maxHeartbeats 1000000
namespace Go.Proofs.YtlglfmbccihopaaGreatDoor
open Go Go.RowKit
namespace Ev
theorem PW_at {α β:Type} {R:α→β→Prop}:∀{l:List α} {m:List β} (j:Nat) (x:α),PW R l m→l[j]? =some x→∃y,m[j]? =some y∧R x y
 |[],[],j,x,_,h=>by simp at h
 |a::l,b::m,0,x,h,hx=>by
  simp only [List.getElem?_cons_zero,Option.some.injEq] at hx;subst hx;exact⟨b,rfl,h.1⟩
 |a::l,b::m,j+1,x,h,hx=>by
  simp only [List.getElem?_cons_succ] at hx⊢;exact PW_at j x h.2 hx
 |_::_,[],_,_,h,_=>h.elim
 |[],_::_,_,_,h,_=>h.elim
def dbL:List Cl:=Lib.deBruijn32tab.map fun(n:Nat)=> .i .u8 (n:Int)
theorem db_mem:(4,dbL)∈glL:=by
 have h:glL[3]? =some (4,dbL):=by decide+kernel
 exact List.mem_of_getElem? h
theorem Gl.grd {w:World} (h:Gl w):Grd w where
 tabs:=h.tb
 db:=fun j hj=>by
  obtain⟨_,m,h1,h2⟩:=h.ls _ db_mem;have h3:=h2 fun _=>none;have hx:dbL[j]? =some (.i .u8 (Lib.deBruijn32tab.getD j 0:Nat)):=by
   unfold dbL;rw [List.getElem?_map,List.getD_eq_getElem?_getD,List.getElem?_eq_getElem hj];rfl
  obtain⟨y,hy,hr⟩:=PW_at j _ h3 hx;have:=h1 j y hy;rw [this];have hr':y= .int .u8 (Lib.deBruijn32tab.getD j 0:Nat):=hr;rw [hr']
 ml:=h.ml.2
theorem Zng {f:Nat} (h:∀w,Grd w→Calls Tryz.prog f #[] w fun e w'=>e= .returned (.bool true)∧Below w.heap.size w w'):ToldOk (tAw f):=fun w hg ρ A hA=>by
 cases A with
 |cons _ _=>exact hA.elim
 |nil=>exact(h w hg.grd).mono fun e w' ⟨he,hb⟩=>⟨_,he,fun _=>rfl,hb⟩
theorem aw05:ToldOk (tAw 276):=Zng fun w h=>Awake5 w h.tabs
theorem aw07:ToldOk (tAw 278):=Zng fun w h=>ZoS w h.db h.ml
def dT (c:Int)(l r:List UInt8):Told:=⟨62,[.c (.i .i64 c),.c (.s l)],.t [.c (.s r),.a [.i .i64 0,.i .i64 0]]⟩
def dE (c:Int)(l:List UInt8)(n:Int):Told:=⟨62,[.c (.i .i64 c),.c (.s l)],.t [.c (.s []),.a [.i .i64 2,.i .i64 n]]⟩
def okInl (r:Za4)(l:List UInt8):Bool:=match r with
 | .inl ps=>Zc ps==l
 | .inr _=>false
theorem Zcq (c:Nat)(hc:c≤9)(l r:List UInt8)(hl:l.length≤100000)(hd:okInl (ZC c l) r=true):ToldOk (dT c l r):=fun w hg ρ A hA=>by
 obtain⟨x,y,rfl,hx,hy⟩:=PW.two hA;have e1:x= .int .i64 c:=hx;have e2:y= .string (B l):=hy;subst e1 e2;have h:=Zd6 c hc l hl w hg.grd;generalize ZC c l=q at h hd;refine h.mono fun e w' ⟨he,hb⟩=> ?_;cases q with
 |inr n=>cases hd
 |inl ps=>
  have ht:Zc ps=r:=eq_of_beq hd;refine⟨_,he,fun σ=> ?_,hb⟩;unfold D2V;simp only;rw [ht];exact⟨[_,_],rfl,rfl,⟨[_,_],rfl,rfl,rfl,trivial⟩,trivial⟩
theorem dE_ok (c:Nat)(hc:c≤9)(l:List UInt8)(n:Nat)(hl:l.length≤100000)(hd:ZC c l= .inr n):ToldOk (dE c l n):=fun w hg ρ A hA=>by
 obtain⟨x,y,rfl,hx,hy⟩:=PW.two hA;have e1:x= .int .i64 c:=hx;have e2:y= .string (B l):=hy;subst e1 e2;have h:=Zd6 c hc l hl w hg.grd;rw [hd] at h;refine h.mono fun e w' ⟨he,hb⟩=>⟨_,he,fun σ=> ?_,hb⟩
 exact⟨[_,_],rfl,rfl,⟨[_,_],rfl,rfl,rfl,trivial⟩,trivial⟩
theorem Zdz (c:Nat)(hc:c≤3)(l:List UInt8):ZC c l= .inl (l.map fun x=>ZaR c x.toNat):=by
 unfold ZC;rw [if_pos hc]
def d29:Told:=dT 1 [84,73,84,76,69,32,193] [84,73,84,76,69,32,208,176]
theorem d29_ok:ToldOk d29:=Zcq 1 (by decide) _ _ (by decide) (by rw [Zdz 1 (by decide)];decide+kernel)
end Ev
end Go.Proofs.YtlglfmbccihopaaGreatDoor
