/- Lemmas for a statement on the tops; conditions: as each says. -/
import Derived.Test.YtlfinljfghhpdaaGreatDoorM13
import Derived.Test.YtlfinljfghhpdaaGreatDoorM29
set_option linter.unusedVariables false
set_option linter.unusedSimpArgs false
set_option maxRecDepth 100000
set_option maxHeartbeats 1000000
namespace Go.Proofs.YtlfinljfghhpdaaGreatDoor
open Go Go.RowKit
namespace Ev
theorem PW_at {α β:Type} {R:α→β→Prop}:∀{l:List α} {m:List β} (j:Nat) (x:α),PW R l m→l[j]? =some x→∃y,m[j]? =some y∧R x y
 |[],[],j,x,_,h=>by simp at h
 |a::l,b::m,0,x,h,hx=>by
  simp only [List.getElem?_cons_zero,Option.some.injEq] at hx;subst hx;exact⟨b,rfl,h.1⟩
 |a::l,b::m,j+1,x,h,hx=>by
  simp only [List.getElem?_cons_succ] at hx⊢;exact PW_at j x h.2 hx
 |_::_,[],_,_,h,_=>h.elim
 |[],_::_,_,_,h,_=>h.elim
def dbL:List Cl:=Lib.deBruijn32tab.map fun(n:Nat)=> .i .u8 (n:Int)
theorem db_mem:(4,dbL)∈glL:=by
 have h:glL[3]? =some (4,dbL):=by decide+kernel
 exact List.mem_of_getElem? h
theorem Gl.grd {w:World} (h:Gl w):Grd w where
 tabs:=h.tb
 db:=fun j hj=>by
  obtain⟨_,m,h1,h2⟩:=h.ls _ db_mem;have h3:=h2 fun _=>none;have hx:dbL[j]? =some (.i .u8 (Lib.deBruijn32tab.getD j 0:Nat)):=by
   unfold dbL;rw [List.getElem?_map,List.getD_eq_getElem?_getD,List.getElem?_eq_getElem hj];rfl
  obtain⟨y,hy,hr⟩:=PW_at j _ h3 hx;have:=h1 j y hy;rw [this];have hr':y= .int .u8 (Lib.deBruijn32tab.getD j 0:Nat):=hr;rw [hr']
 ml:=h.ml.2
theorem tAw_of {f:Nat} (h:∀w,Gl w→Calls Tryz.prog f #[] w fun e w'=>e= .returned (.bool true)∧Below w.heap.size w w'):ToldOk (tAw f):=fun w hg ρ A hA=>by
 cases A with
 |cons _ _=>exact hA.elim
 |nil=>exact(h w hg).mono fun e w' ⟨he,hb⟩=>⟨_,he,fun _=>rfl,hb⟩
theorem aw_run {f:Nat} (h:ToldOk (tAw f))(w:World)(hG:Gl w):Calls Tryz.prog f #[] w fun e w'=>e= .returned (.bool true)∧Below w.heap.size w w':=by
 have:=h w hG (fun _=>none) [] trivial;refine this.mono ?_;rintro e w' ⟨V,rfl,hV,hb⟩;have e:V= .bool true:=hV (fun _=>none);subst e;exact⟨rfl,hb⟩
theorem aw02:ToldOk (tAw 180):=ZO (L:=[]) (ZK) ZL 100000 _ _ _ rfl rfl (by decide+kernel)
theorem aw04:ToldOk (tAw 329):=ZO (L:=[]) (ZK) ZL 100000 _ _ _ rfl rfl (by decide+kernel)
theorem aw05:ToldOk (tAw 263):=tAw_of fun w h=>ZnR w h.grd.tabs (fun wx hb=>aw_run aw02 wx (h.below hb)) fun wx hb=>aw_run aw04 wx (h.below hb)
def rT (p:Int)(i:Int)(b:Bool):Told:=⟨365,[.c (.i .i32 p)],.t [.c (.i .i64 i),.c (.b b),.c (.b true)]⟩
theorem Zib (n:Nat)(hn:n<11172)(i:Nat)(b:Bool)(p:Int)(hp:p=44032+(n:Int))(hb:Zn n=b)(hi:cnt b n=i):ToldOk (rT p i b):=fun w hg ρ A hA=>by
 obtain⟨x,rfl,hx⟩:=PW.one hA;have e1:x= .int .i32 p:=hx;subst e1 hp;have h:=ZjG n hn w;rw [hb,hi] at h;exact h.mono fun e w' ⟨he,hb⟩=>⟨_,he,fun σ=>⟨[_,_,_],rfl,rfl,rfl,rfl,trivial⟩,hb⟩
theorem aw07:ToldOk (tAw 265):=ZO (L:=[rT 55203 8821 false]) (Za (Zib 11171 (by decide) 8821 false _ rfl Zlp ZqN)<|ZK) ZL 100000 _ _ _ rfl rfl (by decide+kernel)
def dT (c:Int)(l r:List UInt8):Told:=⟨84,[.c (.i .i64 c),.c (.s l)],.t [.c (.s r),.a [.i .i64 0,.i .i64 0]]⟩
def dE (c:Int)(l:List UInt8)(n:Int):Told:=⟨84,[.c (.i .i64 c),.c (.s l)],.t [.c (.s []),.a [.i .i64 2,.i .i64 n]]⟩
def okInl (r:ZaO)(l:List UInt8):Bool:=match r with
 | .inl ps=>Zb ps==l
 | .inr _=>false
theorem dT_w (c:Nat)(l r:List UInt8)(q:ZaO)(hC:∀w,Gl w→Calls Tryz.prog 84 #[.int .i64 c,.string (B l)] w (Zaq q w))(hd:okInl q r=true):ToldOk (dT c l r):=fun w hg ρ A hA=>by
 obtain⟨x,y,rfl,hx,hy⟩:=PW.two hA;have e1:x= .int .i64 c:=hx;have e2:y= .string (B l):=hy;subst e1 e2;have h:=hC w hg;refine h.mono fun e w' ⟨he,hb⟩=> ?_;cases q with
 |inr n=>cases hd
 |inl ps=>
  have ht:Zb ps=r:=eq_of_beq hd;refine⟨_,he,fun σ=> ?_,hb⟩;unfold D2V;simp only;rw [ht];exact⟨[_,_],rfl,rfl,⟨[_,_],rfl,rfl,rfl,trivial⟩,trivial⟩
theorem ZdQ (c:Nat)(hc:c≤3)(l r:List UInt8)(hl:l.length≤100000)(hd:okInl (.inl (l.map fun(x:UInt8)=>ZJ c x.toNat)) r=true):ToldOk (dT c l r):=
 dT_w c l r (.inl (l.map fun(x:UInt8)=>ZJ c x.toNat)) (fun w hg=>by exact Zi9 c hc l hl w hg.grd) hd
def d29:Told:=dT 1 [84,73,84,76,69,32,193] [84,73,84,76,69,32,208,176]
theorem d29_ok:ToldOk d29:=ZdQ 1 (by decide) _ _ (by decide) (by decide+kernel)
end Ev
end Go.Proofs.YtlfinljfghhpdaaGreatDoor
