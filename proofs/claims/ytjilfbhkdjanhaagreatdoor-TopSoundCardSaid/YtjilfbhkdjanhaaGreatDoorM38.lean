/- Lemmas for a statement on the tops; conditions: as each says. -/
import Derived.Test.YtjilfbhkdjanhaaGreatDoorM10
import Derived.Test.YtjilfbhkdjanhaaGreatDoorM28
set_option linter.all false
set_option maxRecDepth 100000
set_option maxHeartbeats 1000000
open Go.Proofs.Tryz
namespace Go.Proofs.YtjilfbhkdjanhaaGreatDoor
open Go Go.RowKit
namespace Ev
def PW_at{α β:Type}{R:α->β->Prop}:∀{l:List α} {m:List β} (j:Nat) (x:α),PW R l m->l[j]?=some x->∃y,m[j]?=some y/\R x y
 |[],[],j,x,_,h=>by simp at h
 |a::l,b::m,0,x,h,q=>by
  simp only[List.getElem?_cons_zero,Option.some.injEq] at q;subst q;exact⟨b,rfl,h.1⟩
 |a::l,b::m,j+1,x,h,q=>by
  simp only[List.getElem?_cons_succ] at q⊢;exact PW_at j x h.2 q
 |_::_,[],_,_,h,_=>h.elim
 |[],_::_,_,_,h,_=>h.elim
def dbL:List Cl:=Lib.deBruijn32tab.map λ(n:Nat)=>.i .u8 (n:Int)
def db_mem:(4,dbL)∈glL:=by
 have h:glL[3]?=some (4,dbL):=by decide+kernel
 exact List.mem_of_getElem? h
def Gl.grd{w:World}(h:Gl w):Grd w where
 tabs:=h.tb
 db:=λj I=>by
  obtain⟨_,m,N,L⟩:=h.ls _ db_mem;have J:=L λ_=>none;have C:dbL[j]?=some (.i .u8 (Lib.deBruijn32tab.getD j 0:Nat)):=by
   unfold dbL;rw[List.getElem?_map,List.getD_eq_getElem?_getD,List.getElem?_eq_getElem I];rfl
  obtain⟨y,u,D⟩:=PW_at j _ J C;have:=N j y u;rw[this];have q:y=.int .u8 (Lib.deBruijn32tab.getD j 0:Nat):=D;rw[q]
 ml:=h.ml.2
def tAw_of{f:Nat}(h:∀w,Gl w->Calls prog f #[] w λe w'=>e=.returned (.bool true)/\Below w.heap.size w w'):ToldOk (tAw f):=λw j ρ A q=>by
 cases A with
 |cons _ _=>exact q.elim
 |nil=>exact(h w j).mono λe w' ⟨he,hb⟩=>⟨_,he,λ_=>rfl,hb⟩
def aw_run{f:Nat}(h:ToldOk (tAw f))(w:World)(hG:Gl w):Calls prog f #[] w λe w'=>e=.returned (.bool true)/\Below w.heap.size w w':=by
 have:=h w hG (λ_=>none) [] trivial;refine this.mono ?_;rintro e w' ⟨V,rfl,j,hb⟩;have e:V=.bool true:=j (λ_=>none);subst e;exact⟨rfl,hb⟩
def aw02:ToldOk (tAw 179):=ZU (L:=[]) (ZL) ZP 100000 _ _ _ rfl rfl (by decide+kernel)
def aw04:ToldOk (tAw 303):=ZU (L:=[]) (ZL) ZP 100000 _ _ _ rfl rfl (by decide+kernel)
def aw05:ToldOk (tAw 253):=tAw_of λw h=>ZpN w h.grd.tabs (λwx hb=>aw_run aw02 wx (h.below hb)) λwx hb=>aw_run aw04 wx (h.below hb)
def rT(p:Int)(i:Int)(b:Bool):Told:=⟨334,[.c (.i .i32 p)],.t [.c (.i .i64 i),.c (.b b),.c (.b true)]⟩
def ZjS(n:Nat)(hn:n<11172)(i:Nat)(b:Bool)(p:Int)(q:p=44032+(n:Int))(hb:ZaD n=b)(u:cnt b n=i):ToldOk (rT p i b):=λw D ρ A y=>by
 obtain⟨x,rfl,j⟩:=PW.one y;have C:x=.int .i32 p:=j;subst C q;have h:=Zlg n hn w;rw[hb,u] at h;exact h.mono λe w' ⟨he,hb⟩=>⟨_,he,λσ=>⟨[_,_,_],rfl,rfl,rfl,rfl,trivial⟩,hb⟩
def aw07:ToldOk (tAw 255):=ZU (L:=[rT 55203 8821 false]) (Za (ZjS 11171 (by decide) 8821 false _ rfl Zni Zs9)<|ZL) ZP 100000 _ _ _ rfl rfl (by decide+kernel)
def dT(c:Int)(l r:List UInt8):Told:=⟨91,[.c (.i .i64 c),.c (.s l)],.t [.c (.s r),.a [.i .i64 0,.i .i64 0]]⟩
def dE(c:Int)(l:List UInt8)(n:Int):Told:=⟨91,[.c (.i .i64 c),.c (.s l)],.t [.c (.s []),.a [.i .i64 2,.i .i64 n]]⟩
def okInl(r:Zay)(l:List UInt8):Bool:=match r with
 | .inl ps=>Zd ps==l
 | .inr _=>false
def dT_w(c:Nat)(l r:List UInt8)(q:Zay)(I:∀w,Gl w->Calls prog 91 #[.int .i64 c,.string (B l)] w (Z6 q w))(hd:okInl q r=true):ToldOk (dT c l r):=λw D ρ A J=>by
 obtain⟨x,y,rfl,u,j⟩:=PW.two J;have N:x=.int .i64 c:=u;have L:y=.string (B l):=j;subst N L;have h:=I w D;refine h.mono λe w' ⟨he,hb⟩=>?_;cases q with
 |inr n=>cases hd
 |inl ps=>
  have C:Zd ps=r:=eq_of_beq hd;refine⟨_,he,λσ=>?_,hb⟩;unfold D2V;simp only;rw[C];exact⟨[_,_],rfl,rfl,⟨[_,_],rfl,rfl,rfl,trivial⟩,trivial⟩
def Ze2(c:Nat)(u:c<=3)(l r:List UInt8)(j:l.length<=100000)(hd:okInl (.inl (l.map λ(x:UInt8)=>Zbj c x.toNat)) r=true):ToldOk (dT c l r):=
 dT_w c l r (.inl (l.map λ(x:UInt8)=>Zbj c x.toNat)) (λw q=>by exact ZkF c u l j w q.grd) hd
def d29:Told:=dT 1 [84,73,84,76,69,32,193] [84,73,84,76,69,32,208,176]
def d29_ok:ToldOk d29:=Ze2 1 (by decide) _ _ (by decide) (by decide+kernel)
end Ev
