/- Lemmas for a statement on the tops; conditions: as each says. -/
import Derived.OrdersHeld
import Derived.Deep.RegionHeld
import Derived.Deep.RegionHeld3
import Derived.Laws.Rows
import Derived.Laws.CopyRow
import Derived.Laws.Strings
import Derived.Test.YtjilfbhkdjanhaaGreatDoorM0
set_option linter.all false
set_option maxRecDepth 100000
set_option maxHeartbeats 200000
namespace Go.Proofs.YtjilfbhkdjanhaaGreatDoor
open Go
def ZbK:List Oper->Nat->Option Oper
 |[],_=>none
 |o::_,0=>some o
 |_::l,i+1=>ZbK l i
def Zey:∀(l:List Oper) (i:Nat),ZbK l i=l.toArray[i]?
 |[],i=>by simp[ZbK]
 |o::l,0=>by simp[ZbK]
 |o::l,i+1=>by
  have:=Zey l i;simp only[ZbK,this];simp
def Zet(ops:Array Oper):List (Nat×Bool)->Array Bool->Bool
 |[],j=>(Region.ready .any ops j).isEmpty
 |(i,true)::r,j=>(Region.ready .any ops j).contains i&&Region.free .any ops j i&&Zet ops r (j.setIfInBounds i true)
 |(i,false)::r,j=>(Region.ready .any ops j==[i])&&Zet ops r (j.setIfInBounds i true)
section
variable {P:Program} {l:List Oper} {Q:Exit->Act->World->Prop} {S:World->Prop}
def Zdg(P:Program)(l:List Oper)(Q:Exit->Act->World->Prop)(S:World->Prop):List (Nat×Bool)->Act->World->Prop
 |[],a,w=>Q .normal a w
 |(i,true)::r,a,w=>∃o v,ZbK l i=some o/\YieldsIf P l.toArray S o v a/\Zdg P l Q S r (a.put o.dst v) w
 |(i,false)::r,a,w=>∃o,ZbK l i=some o/\(if Region.wanted o (yielded l.toArray a.tmps)=true then o.wp P a w (λj w'=>S w'/\Zdg P l Q S r j w') Q else Zdg P l Q S r (a.put o.dst undef) w)
theorem Zg3(C:Region.noSelect l.toArray=true)(L:∀c (a:Act) d v w,Q (.panic c) (a.put d v) w->Q (.panic c) a w):
 ∀(O:List (Nat×Bool)) (u:Nat) (q:Array Bool) (a:Act) (w:World),Zet l.toArray O q=true->O.length<=u->S w->Zdg P l Q S O a w->wpAnyH P .any l.toArray Q S u q a w
 |[],u,q,a,w,y,_,_,h=>wpAnyH_done (by simpa[Zet] using y) h u
 |(i,true)::r,0,q,a,w,y,D,hS,h=>by simp at D
 |(i,false)::r,0,q,a,w,y,D,hS,h=>by simp at D
 |(i,true)::r,u+1,q,a,w,y,D,hS,h=>by
  obtain⟨o,v,J,Y,I⟩:=h;simp only[Zet,Bool.and_eq_true] at y;obtain⟨⟨X,h2⟩,N⟩:=y;rw[Zey] at J;exact wpAnyH_take J C h2 X (λc a w=>L c a _ _ w) Y hS (Zg3 C L r u _ _ w N (by simpa using D) hS I)
 |(i,false)::r,u+1,q,a,w,y,D,hS,h=>by
  obtain⟨o,J,I⟩:=h;simp only[Zet,Bool.and_eq_true,beq_iff_eq] at y;obtain⟨X,N⟩:=y;rw[Zey] at J;refine wpAnyH_all X (by simp) λj Z=>?_;have V:j=i:=by simpa using Z
  subst V;unfold wpOp;rw[J];simp only;split
  ·rename_i U
   rw[if_pos U] at I;exact .inl (Oper.wp_mono (λa' w' W=>⟨W.1,Zg3 C L r u _ a' w' N (by simpa using D) W.1 W.2⟩) I)
  ·rename_i U
   rw[if_neg U] at I;exact⟨hS,Zg3 C L r u _ _ w N (by simpa using D) hS I⟩
theorem ZpE{id:Nat}{a:Act}{w:World}(S:World->Prop)(u:List (Nat×Bool))(C:P.follows .mixedOrders=true)(j:Region.noSelect l.toArray=true)
 (y:Zet l.toArray u (Array.replicate l.toArray.size false)=true) (q:u.length<=l.toArray.size)
 (D:∀c (a:Act) d v w,Q (.panic c) (a.put d v) w->Q (.panic c) a w) (hS:S w.drew) (h:Zdg P l Q S u a w.drew):(Code.region id l.toArray true).wp P Q a w:=
 wp_region_held_drew C hS λhS=>Zg3 j D u _ _ a w.drew y q hS h
theorem Znu{a:Act}{w:World}(h:Q .normal a w):Zdg P l Q S [] a w:=h
theorem Zdw{i:Nat}{r:List (Nat×Bool)}{o:Oper}{a:Act}{w:World}(u:ZbK l i=some o)(j:Region.wanted o (yielded l.toArray a.tmps)=true)(v:Value)(q:∀w,S w->(execOp a.eval o).run P w=.ok (.value v) w)(h:Zdg P l Q S r (a.put o.dst v) w):Zdg P l Q S ((i,true)::r) a w:=
 ⟨o,v,u,.inl ⟨j,q⟩,h⟩
theorem Zga{i:Nat}{r:List (Nat×Bool)}{o:Oper}{a:Act}{w:World}(u:ZbK l i=some o)(j:Region.wanted o (yielded l.toArray a.tmps)=true)
 (h:∀K:Act->World->Prop,Shut (∀a w,S w->Zdg P l Q S r a w->K a w)->o.wp P a w K Q):Zdg P l Q S ((i,false)::r) a w:=
 ⟨o,u,by rw[if_pos j];exact h _ (λa w hS q=>⟨hS,q⟩)⟩
end
namespace Ev
noncomputable section
def Bs(l:List UInt8):ByteArray:=⟨l.toArray⟩
inductive Cl where
 |b (x:Bool)|i (k:IntKind) (n:Int)|s (l:List UInt8)
 |zp|zs|zf|zi|zm
 |p (id off:Nat)|g (g off:Nat)|sl (id off len cut:Nat)|fn (f:Nat) (fs cs:List (Nat×Nat))|m (id:Nat)
 deriving DecidableEq
inductive A0 where
 |c (x:Cl)|a (l:List Cl)
 deriving DecidableEq
inductive AV where
 |c (x:Cl)|a (l:List Cl)|t (l:List A0)
 deriving DecidableEq
def A0.av:A0->AV
 | .c x=>.c x
 | .a l=>.a l
def AV.a0:AV->Option A0
 | .c x=>some (.c x)
 | .a l=>some (.a l)
 | .t _=>none
def AV.cells:AV->List Cl
 | .c x=>[x]
 | .a l=>l
 | .t _=>[]
def AV.isT:AV->Bool
 | .t _=>true
 |_=>false
inductive Ob where
 |cl (l:List Cl) (ty sz row:Nat)
 |it (s:List UInt8) (pos:Nat)
 |mp (es:List (A0×A0))
 deriving DecidableEq
abbrev Hp:=List (Nat×Ob)
inductive TK where
 |int (k:IntKind)|bl|str|ptr (e:Nat)|sl (e:Nat)|st (fs:List (Nat×Nat×Nat))|ar (n e:Nat)|mp (k e:Nat)|fn|ot
structure TI where
 k:TK
 size:Nat
 bytes:Nat
 zero:List Cl
def TK.agg:TK->Bool
 | .st _=>true
 | .ar _ _=>true
 |_=>false
inductive Tr (α:Type) where
 |lf
 |nd (l:Tr α) (v:Option α) (r:Tr α)
noncomputable def Tr.get{α:Type}(t:Tr α):Nat->Nat->Option α:=
 Tr.rec (motive:=λ_=>Nat->Nat->Option α) (λ_ _=>none) (λ_ v _ q j n f=>cond (Nat.beq n 0) v (cond (Nat.beq f 0) none (cond (Nat.beq (n % 2) 0) (q (n / 2) (f - 1)) (j (n / 2) (f - 1))))) t
def ZiE{a b:Nat}(h:a≠b):Nat.beq a b=false:=by
 cases e:Nat.beq a b with
 |false=>rfl
 |true=>exact absurd (Nat.eq_of_beq_eq_true e) h
def Tr.get_lf{α:Type}(n f:Nat):(Tr.lf:Tr α).get n f=none:=rfl
def Tr.get_nd{α:Type}(l r:Tr α)(v:Option α)(n f:Nat):(Tr.nd l v r).get n f=if n=0 then v else match f with
 |0=>none
 |f+1=>if n % 2=0 then l.get (n / 2) f else r.get (n / 2) f:=by
 show cond (Nat.beq n 0) v (cond (Nat.beq f 0) none (cond (Nat.beq (n % 2) 0) (l.get (n / 2) (f - 1)) (r.get (n / 2) (f - 1))))=_
 by_cases hn:n=0
 ·subst hn;rfl
 ·have u:Nat.beq n 0=false:=ZiE hn;rw[u,if_neg hn];cases f with
  |zero=>rfl
  |succ f=>
   show cond (Nat.beq (n % 2) 0) (l.get (n / 2) f) (r.get (n / 2) f)=_
   by_cases j:n % 2=0
   ·simp only[if_pos j];rw[j];rfl
   ·have q:Nat.beq (n % 2) 0=false:=ZiE j;simp only[if_neg j];rw[q];rfl
def Tr.put{α:Type}(x:α):Nat->Nat->Tr α->Tr α
 |0,_,_=>.lf
 |f+1,n,.lf=>if n=0 then .nd .lf (some x) .lf else if n % 2=0 then .nd (Tr.put x f (n / 2) .lf) none .lf else .nd .lf none (Tr.put x f (n / 2) .lf)
 |f+1,n,.nd l v r=>if n=0 then .nd l (some x) r else if n % 2=0 then .nd (Tr.put x f (n / 2) l) v r else .nd l v (Tr.put x f (n / 2) r)
structure Env where
 ty:Nat->Option TI
 fn:Nat->Option Func
 gl:Nat->Option (List Cl)
 eqt:Nat->Bool
noncomputable def frc{α β:Type}(l:List α)(k:List α->β):β:=
 List.rec (motive:=λ_=>(List α->β)->β) (λk=>k []) (λx _ j k=>j (λr=>k (x::r))) l k
def Zfc{α β:Type}:∀(l:List α) (k:List α->β),frc l k=k l
 |[],_=>rfl
 |x::l,k=>by
  show frc l (λr=>k (x::r))=_
  rw[Zfc l]
noncomputable def ZaW{α:Type}(l:List α):Nat->Option α:=
 List.rec (motive:=λ_=>Nat->Option α) (λ_=>none) (λx _ j n=>Nat.rec (motive:=λ_=>Option α) (some x) (λm _=>j m) n) l
noncomputable def setN{α:Type}(v:α)(l:List α):Nat->List α:=
 List.rec (motive:=λ_=>Nat->List α) (λ_=>[]) (λx r j n=>Nat.rec (motive:=λ_=>List α) (v::r) (λm _=>x::j m) n) l
noncomputable def look(h:Hp)(n:Nat):Option Ob:=
 List.rec (motive:=λ_=>Option Ob) none (λx _ j=>cond (Nat.beq x.1 n) (some x.2) j) h
def upd(id:Nat)(o:Ob):Hp->Hp
 |[]=>[]
 |x::l=>if x.1=id then(id,o)::upd id o l else x::upd id o l
def del(id:Nat):Hp->Hp
 |[]=>[]
 |x::l=>if x.1=id then del id l else x::del id l
def ofC:Value->Option Cl
 | .bool x=>some (.b x)
 | .int k n=>some (.i k n)
 | .string s=>some (.s s.data.toList)
 | .pointer none=>some .zp
 | .slice none 0 0=>some .zs
 | .nilFunc=>some .zf
 | .nilIface=>some .zi
 | .map none=>some .zm
 |_=>none
def ofCs:List Value->Option (List Cl)
 |[]=>some []
 |v::l=>match ofC v,ofCs l with
  |some x,some r=>some (x::r)
  |_,_=>none
def ofV:Value->Option AV
 | .agg cs=>match ofCs cs.toList with
  |some l=>some (.a l)
  |none=>none
 |v=>match ofC v with
  |some x=>some (.c x)
  |none=>none
def ev(t:List AV):Operand->Option AV
 | .tmp i=>ZaW t i
 | .const v=>ofV v
 | .global g=>some (.c (.g g 0))
 | .func f=>some (.c (.fn f [] []))
def mk(j:TI)(l:List Cl):Option AV:=
 if j.k.agg then some (.a l) else match l with
  |[x]=>some (.c x)
  |_=>none
def part(j:TI)(l:List Cl)(q:Nat):Option AV:=
 let r:=(l.drop q).take j.size
 if r.length=j.size then mk j r else none
def Zgv(l:List Cl)(j:Nat)(v:List Cl):Option (List Cl):=
 if j+v.length<=l.length then some (l.take j++(v++l.drop (j+v.length))) else none
def evB(t:List AV)(x:Operand):Option Bool:=match ev t x with
 |some (.c (.b y))=>some y
 |_=>none
def evN(t:List AV)(x:Operand):Option Nat:=match ev t x with
 |some (.c (.i _ (.ofNat n)))=>some n
 |_=>none
def evO(t:List AV)(d:Nat):Option Operand->Option Nat
 |none=>some d
 |some x=>evN t x
def ZfB(m h:Nat)(n:Int):Int:=match n with
 | .ofNat x=>if x<h then .ofNat x else(let y:=x % m;if y<h then .ofNat y else Int.ofNat y - Int.ofNat m)
 | .negSucc x=>if x<h then .negSucc x else(let y:=((Int.negSucc x) % (Int.ofNat m)).toNat;if y<h then .ofNat y else Int.ofNat y - Int.ofNat m)
def ZfC(m:Nat)(n:Int):Int:=match n with
 | .ofNat x=>if x<m then .ofNat x else .ofNat (x % m)
 | .negSucc x=>(Int.negSucc x) % (Int.ofNat m)
def Zb4(k:IntKind)(n:Int):Int:=match k with
 | .i64=>ZfB 18446744073709551616 9223372036854775808 n
 | .u64=>ZfC 18446744073709551616 n
 | .i32=>ZfB 4294967296 2147483648 n
 | .u32=>ZfC 4294967296 n
 | .u16=>ZfC 65536 n
 | .i16=>ZfB 65536 32768 n
 | .u8=>ZfC 256 n
 | .i8=>ZfB 256 128 n
def pow2(n:Nat):Int:=Int.ofNat (2^n)
def Zjf(op:BinOp)(k:IntKind)(x y:Int):Option Cl:=
 match op with
 | .add=>some (.i k (Zb4 k (x+y)))
 | .sub=>some (.i k (Zb4 k (x - y)))
 | .mul=>some (.i k (Zb4 k (x*y)))
 | .quo=>if y=0 then none else some (.i k (Zb4 k (x.tdiv y)))
 | .rem=>if y=0 then none else some (.i k (x.tmod y))
 | .and=>some (.i k (Zb4 k (BitVec.ofInt k.bits x&&&BitVec.ofInt k.bits y).toNat))
 | .or=>some (.i k (Zb4 k (BitVec.ofInt k.bits x|||BitVec.ofInt k.bits y).toNat))
 | .xor=>some (.i k (Zb4 k (BitVec.ofInt k.bits x^^^BitVec.ofInt k.bits y).toNat))
 | .andNot=>some (.i k (Zb4 k (BitVec.ofInt k.bits x&&& ~~~BitVec.ofInt k.bits y).toNat))
 | .eql=>some (.b (x==y))
 | .neq=>some (.b (x !=y))
 | .lss=>some (.b (x<y))
 | .leq=>some (.b (x<=y))
 | .gtr=>some (.b (x>y))
 | .geq=>some (.b (x>=y))
 |_=>none
def shOp(op:BinOp)(k:IntKind)(x y:Int):Option Cl:=
 if y<0 then none else
 match op with
 | .shl=>some (.i k (Zb4 k (x*pow2 (min y.toNat k.bits))))
 | .shr=>some (.i k (x.fdiv (pow2 (min y.toNat k.bits))))
 |_=>none
def Zkd(op:BinOp)(x y:List UInt8):Option Cl:=
 match op with
 | .add=>if x.length+y.length<=1000000 then some (.s (x++y)) else none
 | .eql=>some (.b (x==y))
 | .neq=>some (.b !(x==y))
 |_=>none
def Zex:TK->Cl->Cl->Option Bool
 | .bl,.b x,.b y=>some (x==y)
 | .ptr _,.zp,.zp=>some true
 | .ptr _,.zp,.p _ _=>some false
 | .ptr _,.p _ _,.zp=>some false
 | .sl _,.zs,.zs=>some true
 | .sl _,.zs,.sl _ _ _ _=>some false
 | .sl _,.sl _ _ _ _,.zs=>some false
 | .fn,.zf,.zf=>some true
 | .fn,.zf,.fn _ _ _=>some false
 | .fn,.fn _ _ _,.zf=>some false
 |_,_,_=>none
def shp:List Cl->List Cl->Bool
 |[],[]=>true
 | .b _::l,.b _::m=>shp l m
 | .i k _::l,.i j _::m=>decide (k=j)&&shp l m
 | .s _::l,.s _::m=>shp l m
 |_,_=>false
def Zhk(op:BinOp)(x:Option Bool):Option AV:=match op,x with
 | .eql,some y=>some (.c (.b y))
 | .neq,some y=>some (.c (.b !y))
 |_,_=>none
def opt{α β:Type}(x:Option α)(f:α->Option β):Option β:=match x with
 |some y=>f y
 |none=>none
def binV(E:Env)(op:BinOp)(ty:Nat)(x y:AV):Option AV:=
 match x,y with
 | .c (.i k a),.c (.i q b)=>match op with
  | .shl=>opt (shOp op k a b) λz=>some (.c z)
  | .shr=>opt (shOp op k a b) λz=>some (.c z)
  |_=>if k=q then opt (Zjf op k a b) λz=>some (.c z) else none
 | .c (.s a),.c (.s b)=>opt (Zkd op a b) λz=>some (.c z)
 | .c a,.c b=>opt (E.ty ty) λj=>Zhk op (Zex j.k a b)
 | .a l,.a m=>opt (E.ty ty) λj=>if E.eqt ty&&shp j.zero l&&shp j.zero m then Zhk op (some (decide (l=m))) else none
 |_,_=>none
def unV(op:UnOp):AV->Option AV
 | .c (.b x)=>match op with
  | .not=>some (.c (.b !x))
  |_=>none
 | .c (.i k n)=>match op with
  | .neg=>some (.c (.i k (Zb4 k (0 - n))))
  | .xor=>some (.c (.i k (Zb4 k (BitVec.ofInt k.bits (if k.signed then -1 else k.max)^^^BitVec.ofInt k.bits n).toNat)))
  |_=>none
 |_=>none
def Zc6(place:Nat->Option (Nat×Nat))(t:List AV):List Cl->List (Nat×Operand)->Option (List Cl)
 |l,[]=>some l
 |l,(i,x)::r=>opt (place i) λos=>opt (ev t x) λv=>if v.isT=false/\v.cells.length=os.2 then opt (Zgv l os.1 v.cells) λj=>Zc6 place t j r else none
def places(fs:List (Nat×Nat×Nat))(i:Nat):Option (Nat×Nat):=opt (ZaW fs i) λf=>some f.2
def Zdc:List (Option AV)->Option (List (Nat×Nat))
 |[]=>some []
 |some (.c (.p i o))::r=>opt (Zdc r) λl=>some ((i,o)::l)
 |_=>none
def pPick(j:Env)(t:List AV)(c:Operand)(a:Operand)(b:Operand):Option AV:=opt (evB t c) λy=>if y then ev t a else ev t b
def ZnZ(E:Env)(t:List AV)(ty:Nat)(ps:Array (Nat×Operand)):Option AV:=opt (E.ty ty) λj=>match j.k with
 | .st fs=>opt (Zc6 (places fs) t j.zero ps.toList) λl=>some (.a l)
 | .ar _ e=>opt (E.ty e) λq=>opt (Zc6 (λi=>some (i*q.size,q.size)) t j.zero ps.toList) λl=>some (.a l)
 |_=>none
def Zn7(j:Env)(t:List AV)(x:Operand):Option AV:=match ev t x with
 |some (.c (.p i o))=>some (.c (.p i o))
 |some (.c (.g i o))=>some (.c (.g i o))
 |some (.c (.fn f fs cs))=>some (.c (.fn f fs cs))
 |_=>none
def Zn1(j:Env)(t:List AV)(x:Operand)(i:Nat):Option AV:=match ev t x with
 |some (.t l)=>opt (ZaW l i) λv=>some v.av
 |_=>none
def Zn2(E:Env)(t:List AV)(ty:Nat)(x:Operand)(f:Nat):Option AV:=opt (E.ty ty) λq=>match q.k,ev t x with
 | .st fs,some (.a l)=>opt (ZaW fs f) λj=>opt (E.ty j.1) λu=>part u l j.2.1
 |_,_=>none
def Zn3(E:Env)(t:List AV)(ty:Nat)(x:Operand)(f:Nat):Option AV:=opt (E.ty ty) λq=>match q.k,ev t x with
 | .st fs,some (.c (.p i o))=>opt (ZaW fs f) λj=>if j.2.2=0 then none else some (.c (.p i (o+j.2.1)))
 | .st fs,some (.c (.g i o))=>opt (ZaW fs f) λj=>if j.2.2=0 then none else some (.c (.g i (o+j.2.1)))
 |_,_=>none
def Zn4(E:Env)(t:List AV)(ty:Nat)(x:Operand)(i:Operand):Option AV:=opt (evN t i) λn=>opt (E.ty ty) λq=>match q.k,ev t x with
 | .str,some (.c (.s l))=>opt (ZaW l n) λu=>some (.c (.i .u8 u.toNat))
 | .ar k e,some (.a l)=>if n<k then opt (E.ty e) λj=>part j l (n*j.size) else none
 |_,_=>none
def Zn5(E:Env)(t:List AV)(ty:Nat)(x:Operand)(i:Operand):Option AV:=opt (evN t i) λn=>opt (E.ty ty) λq=>match q.k,ev t x with
 | .ar k e,some (.c (.p i o))=>if n<k then opt (E.ty e) λj=>some (.c (.p i (o+n*j.size))) else none
 | .ar k e,some (.c (.g i o))=>if n<k then opt (E.ty e) λj=>some (.c (.g i (o+n*j.size))) else none
 | .sl e,some (.c (.sl i o len _))=>if n<len then opt (E.ty e) λj=>some (.c (.p i (o+n*j.size))) else none
 |_,_=>none
def Zn8(E:Env)(t:List AV)(ty:Nat)(x:Operand)(j:Option Operand)(q:Option Operand):Option AV:=opt (E.ty ty) λu=>match u.k,ev t x with
 | .str,some (.c (.s l))=>opt (evO t 0 j) λa=>opt (evO t l.length q) λb=>if a<=b/\b<=l.length then some (.c (.s ((l.drop a).take (b - a)))) else none
 | .sl e,some (.c (.sl i o len cut))=>opt (evO t 0 j) λa=>opt (evO t len q) λb=>if a<=b/\b<=len then opt (E.ty e) λy=>some (.c (.sl i (o+a*y.size) (b - a) (cut+a))) else none
 | .sl e,some (.c .zs)=>opt (E.ty e) λ_=>opt (evO t 0 j) λa=>opt (evO t 0 q) λb=>if a=0/\b=0 then some (.c .zs) else none
 |_,_=>none
def Zn0(E:Env)(t:List AV)(s:Nat)(d:Nat)(x:Operand):Option AV:=opt (E.ty s) λts=>opt (E.ty d) λj=>match ts.k,j.k,ev t x with
 | .int _,.int k,some (.c (.i _ n))=>some (.c (.i k (Zb4 k n)))
 | .str,.str,some (.c (.s l))=>some (.c (.s l))
 | .int _,.str,some (.c (.i _ n))=>some (.c (.s (Utf8.encode n).data.toList))
 |_,_,_=>none
def Zn6(j:Env)(t:List AV)(f:Nat)(a:Array Operand)(b:Array Operand):Option AV:=opt (Zdc (a.toList.map (ev t))) λl=>opt (Zdc (b.toList.map (ev t))) λm=>some (.c (.fn f l m))
def pCall(E:Env)(t:List AV)(c:Call):Option AV:=match c.callee with
 | .builtin .len=>opt (ZaW c.argTypes.toList 0) λty=>opt (E.ty ty) λj=>opt (ZaW c.args.toList 0) λx=>match j.k,ev t x with
  | .str,some (.c (.s l))=>some (.c (.i .i64 l.length))
  | .ar n _,some _=>some (.c (.i .i64 n))
  | .sl _,some (.c .zs)=>some (.c (.i .i64 0))
  | .sl _,some (.c (.sl _ _ len _))=>some (.c (.i .i64 len))
  |_,_=>none
 | .builtin .min=>match c.args.toList with
  |[x,y]=>match ev t x,ev t y with
   |some (.c (.i k a)),some (.c (.i _ b))=>some (.c (.i k (if b<a then b else a)))
   |_,_=>none
  |_=>none
 | .builtin .max=>match c.args.toList with
  |[x,y]=>match ev t x,ev t y with
   |some (.c (.i k a)),some (.c (.i _ b))=>some (.c (.i k (if b>a then b else a)))
   |_,_=>none
  |_=>none
 |_=>none
def pop(E:Env)(t:List AV):Op->Option AV
 | .move x=>ev t x
 | .assign x=>ev t x
 | .pick c a b=>pPick E t c a b
 | .build ty ps=>ZnZ E t ty ps
 | .nilCheck x=>Zn7 E t x
 | .extract x i=>Zn1 E t x i
 | .field ty x f=>Zn2 E t ty x f
 | .fieldAddr ty x f=>Zn3 E t ty x f
 | .index ty x i=>Zn4 E t ty x i
 | .indexAddr ty x i=>Zn5 E t ty x i
 | .slice ty x j q none=>Zn8 E t ty x j q
 | .binOp op ty x y _=>opt (ev t x) λa=>opt (ev t y) λb=>binV E op ty a b
 | .unOp op _ x=>opt (ev t x) λa=>unV op a
 | .convert s d x=>Zn0 E t s d x
 | .makeFunc (.func f) a b=>Zn6 E t f a b
 | .call c=>pCall E t c
 |_=>none
def zeros{α:Type}(z:List α):Nat->List α
 |0=>[]
 |n+1=>z++zeros z n
def ZiG:List UInt8->List Cl
 |[]=>[]
 |u::l=>.i .u8 u.toNat::ZiG l
def ofBytes:List Cl->Option (List UInt8)
 |[]=>some []
 | .i .u8 (.ofNat n)::l=>if n<256 then opt (ofBytes l) λr=>some (UInt8.ofNat n::r) else none
 |_=>none
def Zcw(E:Env)(h:Hp)(x:AV)(n:Nat):Option (List Cl):=match x with
 | .c (.p i o)=>match look h i with
  |some (.cl l _ _ _)=>let r:=(l.drop o).take n;if r.length=n then some r else none
  |_=>none
 | .c (.g i o)=>opt (E.gl i) λl=>let r:=(l.drop o).take n;if r.length=n then some r else none
 |_=>none
def Zjo(E:Env)(t:List AV)(h:Hp)(ty:Nat)(x:Operand):Option AV:=
 opt (E.ty ty) λj=>opt (ev t x) λa=>opt (Zcw E h a j.size) λl=>mk j l
def Zcf(k:A0):List (A0×A0)->Option A0
 |[]=>none
 |e::l=>if e.1=k then some e.2 else Zcf k l
def Zdz(k v:A0):List (A0×A0)->List (A0×A0)
 |[]=>[(k,v)]
 |e::l=>if e.1=k then(k,v)::l else e::Zdz k v l
def Zat(j:TI)(q:Bool)(k:A0):Bool:=match j.k,k with
 | .int u,.c (.i y _)=>decide (u=y)
 | .ar _ _,.a l=>q&&shp j.zero l
 |_,_=>false
def ZhO(j:TI)(q:Bool)(k:A0)(l:List (A0×A0)):Bool:=Zat j q k&&l.all λe=>Zat j q e.1
def Zmu(E:Env)(fr:Nat)(q:List AV)(h:Hp)(e:Nat):Option (AV×Hp):=opt (E.ty e) λj=>some (.c (.p fr 0),(fr,.cl j.zero e 1 0)::h)
def eBox(j:Env)(fr:Nat)(t:List AV)(h:Hp)(e:Nat)(x:Operand):Option (AV×Hp):=opt (ev t x) λv=>if v.isT then none else some (.c (.p fr 0),(fr,.cl v.cells e 1 0)::h)
def Zmv(E:Env)(fr:Nat)(t:List AV)(h:Hp)(ty:Nat)(n:Nat)(ps:Array (Nat×Operand)):Option (AV×Hp):=opt (E.ty ty) λq=>match q.k with
 | .sl e=>opt (E.ty e) λj=>if n*j.size<=100000/\j.size≠0 then opt (Zc6 (λi=>some (i*j.size,j.size)) t (zeros j.zero n) ps.toList) λl=>some (.c (.sl fr 0 n 0),(fr,.cl l e j.size 0)::h) else none
 |_=>none
def ZmD(E:Env)(u:Nat)(t:List AV)(h:Hp)(ty:Nat)(a:Operand)(x:Operand):Option (AV×Hp):=opt (E.ty ty) λq=>match ev t a,ev t x with
 |some (.c (.p i o)),some v=>if v.isT=false/\v.cells.length=q.size then match look h i with
  |some (.cl l e z r)=>opt (Zgv l o v.cells) λj=>frc j λj=>some (.t [],upd i (.cl j e z r) h)
  |_=>none else none
 |_,_=>none
def Zmz(E:Env)(fr:Nat)(t:List AV)(h:Hp)(ty:Nat)(n:Operand)(c:Operand):Option (AV×Hp):=opt (E.ty ty) λq=>match q.k with
 | .sl e=>opt (E.ty e) λj=>opt (evN t n) λa=>opt (evN t c) λb=>if a<=b/\b<=100000/\j.bytes*b<=100000000/\j.size≠0 then some (.c (.sl fr 0 a 0),(fr,.cl (zeros j.zero a) e j.size (if a<b then 1 else 0))::h) else none
 |_=>none
def ZmC(E:Env)(D:Nat)(t:List AV)(h:Hp)(ty:Nat)(x:Operand)(y:Option Operand)(C:Option Operand):Option (AV×Hp):=opt (E.ty ty) λq=>match q.k,ev t x with
 | .ar n e,some (.c (.p i j))=>opt (E.ty e) λu=>opt (evO t 0 y) λa=>opt (evO t n C) λb=>match look h i,u.size with
  |some (.cl l _ 1 0),1=>if j+n<=l.length/\a<=b/\b<=n then some (.c (.sl i (j+a) (b - a) (l.length - (n - a))),h) else none
  |_,_=>none
 |_,_=>none
def Zmy(u:Env)(fr:Nat)(q:List AV)(h:Hp)(j:Nat):Option (AV×Hp):=some (.c (.m fr),(fr,.mp [])::h)
def Zmw(E:Env)(fr:Nat)(t:List AV)(h:Hp)(s:Nat)(d:Nat)(x:Operand):Option (AV×Hp):=opt (E.ty s) λts=>opt (E.ty d) λq=>match ts.k,q.k,ev t x with
 | .sl e,.str,some (.c .zs)=>opt (E.ty e) λj=>match j.k with
  | .int .u8=>some (.c (.s []),h)
  |_=>none
 | .sl e,.str,some (.c (.sl i o len _))=>opt (E.ty e) λj=>match j.k,j.size with
  | .int .u8,1=>opt (Zcw E h (.c (.p i o)) len) λl=>opt (ofBytes l) λr=>some (.c (.s r),h)
  |_,_=>none
 | .str,.sl e,some (.c (.s l))=>opt (E.ty e) λj=>match j.k,j.size with
  | .int .u8,1=>if l.length<=100000 then some (.c (.sl fr 0 l.length 0),(fr,.cl (ZiG l) e 1 2)::h) else none
  |_,_=>none
 |_,_,_=>none
def ZmB(E:Env)(fr:Nat)(t:List AV)(h:Hp)(ty:Nat)(x:Operand):Option (AV×Hp):=opt (E.ty ty) λj=>match j.k,ev t x with
 | .str,some (.c (.s l))=>some (.c (.p fr 0),(fr,.it l 0)::h)
 |_,_=>none
def eNext(u:Env)(q:Nat)(t:List AV)(h:Hp)(x:Operand):Option (AV×Hp):=match ev t x with
 |some (.c (.p i 0))=>match look h i with
  |some (.it l j)=>if j<l.length then
   some (.t [.c (.b true),.c (.i .i64 j),.c (.i .i32 (Utf8.decode (Bs l) j).1)],upd i (.it l (j+(Utf8.decode (Bs l) j).2)) h)
   else some (.t [.c (.b false)],h)
  |_=>none
 |_=>none
def Zmx(E:Env)(J:Nat)(t:List AV)(h:Hp)(ty:Nat)(x:Operand)(k:Operand)(ok:Bool):Option (AV×Hp):=opt (E.ty ty) λD=>match D.k,ev t x with
 | .mp kt e,some (.c (.m i))=>opt (E.ty kt) λC=>opt (E.ty e) λu=>opt (ev t k) λI=>opt I.a0 λj=>opt (mk u u.zero) λy=>opt y.a0 λz=>match look h i with
  |some (.mp q)=>if ZhO C (E.eqt kt) j q then some (if ok then .t [(Zcf j q).getD z,.c (.b (Zcf j q).isSome)] else((Zcf j q).getD z).av,h) else none
  |_=>none
 |_,_=>none
def ZmA(E:Env)(J:Nat)(t:List AV)(h:Hp)(ty:Nat)(x:Operand)(k:Operand)(v:Operand):Option (AV×Hp):=opt (E.ty ty) λD=>match D.k,ev t x with
 | .mp kt _,some (.c (.m i))=>opt (E.ty kt) λC=>opt (ev t k) λI=>opt I.a0 λj=>opt (ev t v) λu=>opt u.a0 λy=>match look h i with
  |some (.mp q)=>if ZhO C (E.eqt kt) j q then some (.t [],upd i (.mp (Zdz j y q)) h) else none
  |_=>none
 |_,_=>none
def ZiU(E:Env)(fr:Nat)(t:List AV)(h:Hp)(ts y:Nat)(s x:Operand):Option (AV×Hp):=opt (E.ty ts) λD=>opt (E.ty y) λC=>match D.k,C.k with
 | .sl e,.int .i64=>opt (E.ty e) λq=>opt (ev t x) λu=>match u with
  | .c (.i .i64 (.ofNat m))=>if q.bytes=1/\q.size=1/\0<m/\m<=100000 then(match ev t s with
   |some (.c .zs)=>some (.c (.sl fr 0 m 0),(fr,.cl (zeros q.zero m) e q.size 1)::h)
   |some (.c (.sl j o len cut))=>match look h j with
    |some (.cl l J z k)=>if k<=1/\o=0/\cut=0/\l.length=len*q.size/\len+m<=100000/\z=q.size/\J=e then frc (l++zeros q.zero m) λI=>some (.c (.sl fr 0 (len+m) 0),(fr,.cl I e q.size 1)::del j h) else none
    |_=>none
   |_=>none) else none
  |_=>none
 |_,_=>none
def Zhc(E:Env)(fr:Nat)(t:List AV)(h:Hp)(c:Call):Option (AV×Hp):=match c.callee with
 | .builtin .append=>match c.argTypes.toList,c.args.toList with
  |ts::y::[],s::x::[]=>if ts=y then opt (E.ty ts) λC=>match C.k with
   | .sl e=>opt (E.ty e) λu=>if u.bytes<=1000/\u.size≠0 then(match ev t s,ev t x with
    |some (.c .zs),some (.c .zs)=>some (.c .zs,h)
    |some (.c (.sl i o len cut)),some (.c .zs)=>some (.c (.sl i o len cut),h)
    |some (.c .zs),some (.c (.sl i o len _))=>if len=0 then some (.c .zs,h) else if len<=100000 then opt (Zcw E h (.c (.p i o)) (len*u.size)) λl=>some (.c (.sl fr 0 len 0),(fr,.cl l e u.size 1)::h) else none
    |some (.c (.sl j o len cut)),some (.c (.sl i D q _))=>
     if q=0 then some (.c (.sl j o len cut),h)
     else opt (Zcw E h (.c (.p i D)) (q*u.size)) λJ=>match look h j with
      |some (.cl l L z k)=>if k<=1/\o=0/\cut=0/\l.length=len*u.size/\len+q<=100000/\z=u.size/\L=e then frc (l++J) λI=>some (.c (.sl fr 0 (len+q) 0),(fr,.cl I e u.size 1)::del j h) else none
      |_=>none
    |_,_=>none) else none
   |_=>none else ZiU E fr t h ts y s x
  |_,_=>none
 |_=>none
def eff(E:Env)(fr:Nat)(t:List AV)(h:Hp):Op->Option (AV×Hp)
 | .alloc e=>Zmu E fr t h e
 | .box e x=>eBox E fr t h e x
 | .buildSlice ty n ps=>Zmv E fr t h ty n ps
 | .load ty x=>opt (Zjo E t h ty x) λv=>some (v,h)
 | .store ty a x=>ZmD E fr t h ty a x
 | .makeSlice ty n c=>Zmz E fr t h ty n c
 | .slice ty x j q none=>ZmC E fr t h ty x j q
 | .makeMap ty none=>Zmy E fr t h ty
 | .convert s d x=>Zmw E fr t h s d x
 | .range ty x=>ZmB E fr t h ty x
 | .next x true=>eNext E fr t h x
 | .lookup ty x k ok=>Zmx E fr t h ty x k ok
 | .mapUpdate ty x k v=>ZmA E fr t h ty x k v
 | .call c=>Zhc E fr t h c
 |_=>none
end
end Ev
namespace Ev
def Zh2(m h:Nat)(u:m=2*h)(C:0<h)(n:Int):ZfB m h n=if n % (m:Int)>=(h:Int) then n % (m:Int) - (m:Int) else n % (m:Int):=by
 subst u;unfold ZfB;cases n with
 |ofNat x=>
  simp only[Int.ofNat_eq_natCast];have e:((x:Int) % ((2*h:Nat):Int))=((x % (2*h):Nat):Int):=by simp
  rw[e];by_cases q:x<h
  ·rw[if_pos q,Nat.mod_eq_of_lt (by omega),if_neg (by omega)]
  ·rw[if_neg q];by_cases j:x % (2*h)<h
   ·rw[if_pos j,if_neg (by omega)]
   ·rw[if_neg j,if_pos (by omega)]
 |negSucc x=>
  simp only[Int.ofNat_eq_natCast];have h0:=Int.emod_nonneg (Int.negSucc x) (b:=((2*h:Nat):Int)) (by omega);have D:=Int.emod_lt_of_pos (Int.negSucc x) (b:=((2*h:Nat):Int)) (by omega);by_cases q:x<h
  ·rw[if_pos q];have e:(Int.negSucc x) % ((2*h:Nat):Int)=(Int.negSucc x)+((2*h:Nat):Int):=by
    have y:((Int.negSucc x)+((2*h:Nat):Int)) % ((2*h:Nat):Int)=(Int.negSucc x) % ((2*h:Nat):Int):=Int.add_emod_right ..;rw[<-y];exact Int.emod_eq_of_lt (by rw[Int.negSucc_eq];omega) (by rw[Int.negSucc_eq];omega)
   rw[e,if_pos (by rw[Int.negSucc_eq];omega)];omega
  ·rw[if_neg q];by_cases j:((Int.negSucc x) % ((2*h:Nat):Int)).toNat<h
   ·rw[if_pos j,if_neg (by omega)];omega
   ·rw[if_neg j,if_pos (by omega)];omega
def Zh3(m:Nat)(n:Int):ZfC m n=n % (m:Int):=by
 unfold ZfC;cases n with
 |ofNat x=>
  simp only[Int.ofNat_eq_natCast];by_cases j:x<m
  ·rw[if_pos j];rw[Int.emod_eq_of_lt (by omega) (by omega)]
  ·rw[if_neg j];simp
 |negSucc x=>rfl
def ZfA(k:IntKind)(n:Int):Zb4 k n=k.wrap n:=by
 have j:((2:Int)^64)=((18446744073709551616:Nat):Int):=by decide
 have q:((2:Int)^63)=((9223372036854775808:Nat):Int):=by decide
 have u:((2:Int)^32)=((4294967296:Nat):Int):=by decide
 have y:((2:Int)^31)=((2147483648:Nat):Int):=by decide
 have C:((2:Int)^16)=((65536:Nat):Int):=by decide
 have D:((2:Int)^15)=((32768:Nat):Int):=by decide
 have I:((2:Int)^8)=((256:Nat):Int):=by decide
 have J:((2:Int)^7)=((128:Nat):Int):=by decide
 cases k<;>simp only[Zb4,IntKind.wrap,IntKind.bits,IntKind.signed,j,u,C,I,Bool.true_and,Bool.false_and,Bool.false_eq_true,if_false,decide_eq_true_eq,show 64 - 1=63 from rfl,show 32 - 1=31 from rfl,show 16 - 1=15 from rfl,show 8 - 1=7 from rfl,q,y,D,J]
 ·exact Zh2 256 128 rfl (by decide) n
 ·exact Zh2 65536 32768 rfl (by decide) n
 ·exact Zh2 4294967296 2147483648 rfl (by decide) n
 ·exact Zh2 18446744073709551616 9223372036854775808 rfl (by decide) n
 ·exact Zh3 256 n
 ·exact Zh3 65536 n
 ·exact Zh3 4294967296 n
 ·exact Zh3 18446744073709551616 n
def ZvQ(n:Nat):pow2 n=(2:Int)^n:=by
 unfold pow2;rw[Int.ofNat_eq_natCast,Int.natCast_pow];rfl
def PW{α β:Type}(R:α->β->Prop):List α->List β->Prop
 |[],[]=>True
 |x::l,y::m=>R x y/\PW R l m
 |_,_=>False
section
variable {α β:Type} {R S:α->β->Prop}
theorem PW.len:∀{l:List α} {m:List β},PW R l m->l.length=m.length
 |[],[],_=>rfl
 |_::_,_::_,h=>by simp[PW.len h.2]
 |[],_::_,h=>h.elim
 |_::_,[],h=>h.elim
theorem PW.mono(hR:∀x y,R x y->S x y):∀{l:List α} {m:List β},PW R l m->PW S l m
 |[],[],_=>trivial
 |_::_,_::_,h=>⟨hR _ _ h.1,PW.mono hR h.2⟩
 |[],_::_,h=>h.elim
 |_::_,[],h=>h.elim
theorem PW.get:∀{l:List α} {m:List β} {i:Nat} {x:α},PW R l m->l[i]?=some x->∃y,m[i]?=some y/\R x y
 |x::l,y::m,0,z,h,j=>by
  simp at j;subst j;exact⟨y,by simp,h.1⟩
 |x::l,y::m,i+1,z,h,j=>by
  simp at j;simpa using PW.get h.2 j
 |[],_,_,_,_,j=>by simp at j
 |_::_,[],_,_,h,_=>h.elim
theorem PW.app:∀{l q:List α} {m j:List β},PW R l m->PW R q j->PW R (l++q) (m++j)
 |[],_,[],_,_,h'=>h'
 |_::_,_,_::_,_,h,h'=>⟨h.1,PW.app h.2 h'⟩
 |[],_,_::_,_,h,_=>h.elim
 |_::_,_,[],_,h,_=>h.elim
theorem PW.take:∀(n:Nat) {l:List α} {m:List β},PW R l m->PW R (l.take n) (m.take n)
 |0,_,_,_=>by simp[PW]
 |n+1,[],[],_=>by simp[PW]
 |n+1,_::_,_::_,h=>⟨h.1,PW.take n h.2⟩
 |n+1,[],_::_,h=>h.elim
 |n+1,_::_,[],h=>h.elim
theorem PW.drop:∀(n:Nat) {l:List α} {m:List β},PW R l m->PW R (l.drop n) (m.drop n)
 |0,_,_,h=>by simpa using h
 |n+1,[],[],_=>by simp[PW]
 |n+1,_::_,_::_,h=>by simpa using PW.drop n h.2
 |n+1,[],_::_,h=>h.elim
 |n+1,_::_,[],h=>h.elim
theorem PW.set:∀(n:Nat) {l:List α} {m:List β} {x:α} {y:β},PW R l m->R x y->PW R (l.set n x) (m.set n y)
 |_,[],[],_,_,_,_=>by simp[PW]
 |0,_::_,_::_,_,_,h,j=>⟨j,h.2⟩
 |n+1,_::_,_::_,_,_,h,j=>⟨h.1,PW.set n h.2 j⟩
 |_,[],_::_,_,_,h,_=>h.elim
 |_,_::_,[],_,_,h,_=>h.elim
end
def ZbF{α:Type}:∀(l:List α) (n:Nat),ZaW l n=l[n]?
 |[],_=>rfl
 |_::_,0=>rfl
 |_::l,n+1=>by
  rw[List.getElem?_cons_succ,<-ZbF l n];rfl
def ZoZ{α:Type}(v:α):∀(l:List α) (n:Nat),setN v l n=l.set n v
 |[],_=>rfl
 |_::_,0=>rfl
 |x::l,n+1=>by
  rw[List.set_cons_succ,<-ZoZ v l n];rfl
abbrev Rho:=Nat->Option (Nat×Nat)
def Rho.le(ρ σ:Rho):Prop:=∀i x,ρ i=some x->σ i=some x
def Rho.le_refl(ρ:Rho):ρ.le ρ:=λ_ _ h=>h
def Rho.le_trans{ρ σ τ:Rho}(h:ρ.le σ)(k:σ.le τ):ρ.le τ:=λi x j=>k i x (h i x j)
def PtR(ρ:Rho)(x:Nat×Nat)(v:Value):Prop:=∃b c,ρ x.1=some (b,c)/\v=.pointer (some ⟨b,x.2,none⟩)
def VR(ρ:Rho):Cl->Value->Prop
 | .b x,v=>v=.bool x
 | .i k n,v=>v=.int k n
 | .s l,v=>v=.string (Bs l)
 | .zp,v=>v=.pointer none
 | .zs,v=>v=.slice none 0 0
 | .zf,v=>v=.nilFunc
 | .zi,v=>v=.nilIface
 | .zm,v=>v=.map none
 | .p id j,v=>∃b c,ρ id=some (b,c)/\v=.pointer (some ⟨b,j,none⟩)
 | .g g j,v=>v=.pointer (some ⟨g,j,none⟩)
 | .sl id j len cut,v=>∃b c o,ρ id=some (b,c)/\cut+len<=c/\(len≠0\/cut=0->o=j)/\v=.slice (some ⟨b,o,none⟩) len (c - cut)
 | .fn f fs cs,v=>∃m n:List Value,v=.func (.func f) m.toArray n.toArray/\PW (PtR ρ) fs m/\PW (PtR ρ) cs n
 | .m id,v=>∃b c,ρ id=some (b,c)/\v=.map (some b)
def PtR.mono{ρ σ:Rho}(h:ρ.le σ)(x:Nat×Nat)(v:Value)(j:PtR ρ x v):PtR σ x v:=by
 obtain⟨b,c,u,q⟩:=j;exact⟨b,c,h _ _ u,q⟩
def VR.mono{ρ σ:Rho}(h:ρ.le σ):∀(x:Cl) (v:Value),VR ρ x v->VR σ x v
 | .b _,_,j| .i _ _,_,j| .s _,_,j| .zp,_,j| .zs,_,j| .zf,_,j| .zi,_,j| .zm,_,j| .g _ _,_,j=>j
 | .p _ _,_,⟨b,c,u,q⟩=>⟨b,c,h _ _ u,q⟩
 | .sl _ _ _ _,_,⟨b,c,o,u,q,y,C⟩=>⟨b,c,o,h _ _ u,q,y,C⟩
 | .fn _ _ _,_,⟨m,n,u,q,y⟩=>⟨m,n,u,q.mono (PtR.mono h),y.mono (PtR.mono h)⟩
 | .m _,_,⟨b,c,u,q⟩=>⟨b,c,h _ _ u,q⟩
def VR.one{ρ:Rho}:∀{x:Cl} {v:Value},VR ρ x v->v.oneCell'=true/\v.cells=#[v]/\(∀cs,v≠ .agg cs)/\∀cs,v≠ .tuple cs
 | .b _,_,j| .i _ _,_,j| .s _,_,j| .zp,_,j| .zs,_,j| .zf,_,j| .zi,_,j| .zm,_,j| .g _ _,_,j=>by
  simp only[VR] at j;subst j;exact⟨rfl,rfl,by simp,by simp⟩
 | .p _ _,_,⟨b,c,u,q⟩=>by subst q;exact⟨rfl,rfl,by simp,by simp⟩
 | .sl _ _ _ _,_,⟨b,c,o,u,q,C,y⟩=>by subst y;exact⟨rfl,rfl,by simp,by simp⟩
 | .fn _ _ _,_,⟨m,n,u,q,C⟩=>by subst u;exact⟨rfl,rfl,by simp,by simp⟩
 | .m _,_,⟨b,c,u,q⟩=>by subst q;exact⟨rfl,rfl,by simp,by simp⟩
abbrev LR(ρ:Rho):=PW (VR ρ)
def A0R(ρ:Rho):A0->Value->Prop
 | .c x,v=>VR ρ x v
 | .a l,v=>∃m,v=.agg (List.toArray m)/\LR ρ l m
def AR(ρ:Rho):AV->Value->Prop
 | .c x,v=>VR ρ x v
 | .a l,v=>∃m,v=.agg (List.toArray m)/\LR ρ l m
 | .t l,v=>∃m,v=.tuple (List.toArray m)/\PW (A0R ρ) l m
def A0R.mono{ρ σ:Rho}(h:ρ.le σ):∀(x:A0) (v:Value),A0R ρ x v->A0R σ x v
 | .c _,_,j=>VR.mono h _ _ j
 | .a _,_,⟨m,u,q⟩=>⟨m,u,q.mono (VR.mono h)⟩
def AR.mono{ρ σ:Rho}(h:ρ.le σ):∀(x:AV) (v:Value),AR ρ x v->AR σ x v
 | .c _,_,u=>VR.mono h _ _ u
 | .a _,_,⟨m,q,j⟩=>⟨m,q,j.mono (VR.mono h)⟩
 | .t _,_,⟨m,q,j⟩=>⟨m,q,j.mono (A0R.mono h)⟩
def A0R.av{ρ:Rho}:∀{x:A0} {v:Value},A0R ρ x v->AR ρ x.av v
 | .c _,_,h=>h
 | .a _,_,h=>h
def AR.cells{ρ:Rho}:∀{x:AV} {v:Value},AR ρ x v->x.isT=false->LR ρ x.cells v.cells.toList
 | .c x,v,h,_=>by
  rw[(VR.one h).2.1];exact⟨h,trivial⟩
 | .a l,v,⟨m,q,j⟩,_=>by subst q;exact j
 | .t l,v,_,h=>by simp[AV.isT] at h
def LR.one'{ρ:Rho}:∀{l:List Cl} {m:List Value},LR ρ l m->∀v∈m,v.oneCell'=true
 |[],[],_,_,j=>by simp at j
 |_::_,_::_,h,v,j=>by
  rcases List.mem_cons.1 j with rfl|j
  ·exact(VR.one h.1).1
  ·exact LR.one' h.2 v j
 |[],_::_,h,_,_=>h.elim
 |_::_,[],h,_,_=>h.elim
abbrev TR(ρ:Rho)(t:List AV)(a:Act):Prop:=PW (AR ρ) t a.tmps.toList
def Zfx(ρ:Rho):AR ρ (.t []) undef:=⟨[],rfl,trivial⟩
def ZnS{ρ:Rho}{v:Value}{x:Cl}(h:ofC v=some x):VR ρ x v:=by
 unfold ofC at h;split at h<;>first|(simp at h;done)|(injection h with h;subst h;first|rfl|exact congrArg Value.string (by simp[Bs]))
def ZnT{ρ:Rho}:∀{l:List Value} {m:List Cl},ofCs l=some m->LR ρ m l
 |[],m,h=>by simp only[ofCs,Option.some.injEq] at h;subst h;trivial
 |v::l,m,h=>by
  simp only[ofCs] at h;split at h
  ·rename_i x r q j
   injection h with h;subst h
   exact⟨ZnS q,ZnT j⟩
  ·cases h
def ofV_ok{ρ:Rho}{v:Value}{x:AV}(h:ofV v=some x):AR ρ x v:=by
 unfold ofV at h;split at h
 ·split at h
  ·rename_i cs _ l j
   injection h with h;subst h
   exact⟨cs.toList,by simp,ZnT j⟩
  ·cases h
 ·split at h
  ·rename_i j
   injection h with h;subst h
   exact ZnS j
  ·cases h
def Zi4{a:Array Value}{i:Nat}{y:Value}(h:a.toList[i]?=some y):a.getD i undef=y:=by
 have:a[i]?=some y:=by simpa using h
 rw[Array.getD_eq_getD_getElem?,this];rfl
def Zl{ρ:Rho}{t:List AV}{a:Act}{x:Operand}{v:AV}(q:TR ρ t a)(h:ev t x=some v):AR ρ v (a.eval x):=by
 cases x with
 |tmp i=>
  simp only[ev,ZbF] at h;obtain⟨y,j,u⟩:=q.get h;rw[show a.eval (.tmp i)=a.tmps.getD i undef from rfl,Zi4 j];exact u
 |const v=>exact ofV_ok h
 |global g=>simp only[ev,Option.some.injEq] at h;subst h;rfl
 |func f=>simp only[ev,Option.some.injEq] at h;subst h;exact⟨[],[],rfl,trivial,trivial⟩
def put_ok{ρ:Rho}{t:List AV}{a:Act}{d:Nat}{v:AV}{V:Value}(q:TR ρ t a)(j:AR ρ v V):TR ρ (t.set d v) (a.put (some d) V):=by
 unfold TR;show PW _ _ (a.tmps.setIfInBounds d V).toList
 rw[Array.toList_setIfInBounds];exact q.set d j
def TKok(P:Program):TK->TypeDesc->Prop
 | .int k,.int q=>k=q
 | .bl,.bool=>True
 | .str,.string=>True
 | .ptr e,.pointer j=>e=j
 | .sl e,.slice j=>e=j
 | .ar n e,.array u j=>n=u/\e=j
 | .mp k e,.map q j=>k=q/\e=j
 | .fn,.func _ _ _=>True
 | .st fs,.struct fields=>fs=fields.toList.map (λf=>(f.type,f.offset,P.cellsOf f.type))/\∀f∈fields,(P.info? f.type).isSome=true
 | .ot,.interface _=>True
 | .ot,.tuple _=>True
 |_,_=>False
structure TyOk (P:Program)(t:Nat)(ti:TI):Prop where
 ex:∃info desc z,P.info? t=some info/\P.underlying t=some desc/\info.size=ti.size/\info.bytes=ti.bytes/\TKok P ti.k desc/\info.zero=some z/\(∀ρ,LR ρ ti.zero z.cells.toList)/\(ti.k.agg=true->∃m,z= .agg m)/\(ti.k.agg=false->∀m,z≠ .agg m)
 zlen:ti.zero.length=ti.size
def TKok.agg{P:Program}:∀{k:TK} {d:TypeDesc},TKok P k d->k.agg=(match d with| .struct _| .array _ _=>true|_=>false)
 |k,d,h=>by cases k<;>cases d<;>first|rfl|exact h.elim
end Ev
namespace Ev
def Zc{α β:Type}{x:Option α}{f:α->Option β}{v:β}(h:opt x f=some v):∃y,x=some y/\f y=some v:=by
 cases x with
 |none=>simp[opt] at h
 |some y=>exact⟨y,rfl,h⟩
section
variable {P:Program} {E:Env} {ρ:Rho} {t:List AV} {a:Act} {o:Oper} {v:AV}
def Yld(P:Program)(ρ:Rho)(a:Act)(o:Oper)(v:AV):Prop:=∃V,AR ρ v V/\∀w,(execOp a.eval o).run P w=.ok (.value V) w
theorem Zdh{s:Sem Value}{V:Value}(j:execOp a.eval o=(do let v<-s;pure (.value v)))(u:AR ρ v V)(q:∀w,s.run P w=.ok V w):Yld P ρ a o v:=
 ⟨V,u,λw=>by rw[j];simp[q w]⟩
theorem TyOk.info{t:Nat}{j:TI}(h:TyOk P t j):∃info,P.info? t=some info/\info.size=j.size/\info.bytes=j.bytes:=by
 obtain⟨info,desc,z,y,C,u,q,_⟩:=h.ex;exact⟨info,y,u,q⟩
theorem run_ti{t:Nat}{info:TypeInfo}(h:P.info? t=some info)(w:World):(typeInfo t).run P w=.ok info w:=by simp[typeInfo,h]
theorem run_und{t:Nat}{d:TypeDesc}(h:P.underlying t=some d)(w:World):(underlying t).run P w=.ok d w:=by simp[underlying,h]
theorem TyOk.sizeOf{t:Nat}{j:TI}(h:TyOk P t j)(w:World):(sizeOf t).run P w=.ok j.size w:=by
 obtain⟨info,u,q,y⟩:=h.info;simp[Go.sizeOf,run_ti u,q]
theorem TyOk.und{t:Nat}{j:TI}(h:TyOk P t j):∃d,P.underlying t=some d/\TKok P j.k d:=by
 obtain⟨info,desc,z,D,u,C,y,q,_⟩:=h.ex;exact⟨desc,u,q⟩
theorem TyOk.zero{t:Nat}{j:TI}(h:TyOk P t j):∃z,(∀w,(zeroValue t).run P w=.ok z w)/\(∀ρ,LR ρ j.zero z.cells.toList)/\(j.k.agg=true->∃m,z=.agg m)/\(j.k.agg=false->∀m,z≠ .agg m):=by
 obtain⟨info,desc,z,D,N,L,J,I,C,y,u,q⟩:=h.ex;exact⟨z,λw=>by simp[zeroValue,run_ti D,C],y,u,q⟩
theorem TyOk.isAgg{t:Nat}{j:TI}(h:TyOk P t j)(w:World):(isAgg t).run P w=.ok j.k.agg w:=by
 obtain⟨d,u,q⟩:=h.und;rw[q.agg];simp only[Go.isAgg,Sem.run_bind,run_und u,Result.andThen_ok];cases d<;>rfl
theorem Zjs{q:TI}{l:List Cl}{m:List Value}(h:mk q l=some v)(j:LR ρ l m):(q.k.agg=true->AR ρ v (.agg m.toArray))/\(q.k.agg=false->∃x,m=[x]/\AR ρ v x):=by
 unfold mk at h;split at h
 ·rename_i u
  injection h with h;subst h
  exact⟨λ_=>⟨m,rfl,j⟩,λy=>by rw[u] at y;cases y⟩
 ·rename_i u
  refine⟨λC=>absurd C u,λ_=>?_⟩;split at h
  ·injection h with h;subst h
   match m,j with
   |[x],j=>exact⟨x,rfl,j.1⟩
  ·cases h
theorem ZhC{e:Nat}{q:TI}{l:List Cl}{m:List Value}{j:Nat}(y:TyOk P e q)(h:part q l j=some v)(N:LR ρ l m):∃V,AR ρ v V/\∀w,(Go.part e m.toArray j).run P w=.ok V w:=by
 unfold part at h;simp only at h;split at h
 ·rename_i D
  have C:=(N.drop j).take q.size;obtain⟨J,I⟩:=Zjs h C;cases u:q.k.agg with
  |true=>
   refine⟨_,J u,λw=>?_⟩;simp only[Go.part,Sem.run_bind,y.isAgg,Result.andThen_ok,u,if_true,y.sizeOf,Sem.run_pure];congr 2
   apply Array.ext'
   simp[List.extract_eq_take_drop]
  |false=>
   obtain⟨x,U,O⟩:=I u;refine⟨x,O,λw=>?_⟩;simp only[Go.part,Sem.run_bind,y.isAgg,Result.andThen_ok,u];have L:m[j]?=some x:=by
    have:((m.drop j).take q.size)[0]?=some x:=by rw[U];rfl
    rw[List.getElem?_take] at this;split at this
    ·simpa using this
    ·cases this
   simp[L]
 ·cases h
theorem Zpc{l C x:List Cl}{m y:List Value}{j:Nat}(h:Zgv l j x=some C)(u:LR ρ l m)(D:LR ρ x y):LR ρ C (m.take j++(y++m.drop (j+y.length)))/\j+y.length<=m.length:=by
 unfold Zgv at h;split at h
 ·rename_i q
  injection h with h;subst h
  rw[<-D.len,<-u.len];exact⟨(u.take j).app (D.app (u.drop _)),q⟩
 ·cases h
theorem ZmV:∀(y:List Value) (cs:Array Value) (q u:Nat),q+u+y.length<=cs.size->
 ((y.zipIdx u).foldl (λcs (c,j)=>cs.setIfInBounds (q+j) c) cs).toList=cs.toList.take (q+u)++(y++cs.toList.drop (q+u+y.length))
 |[],cs,q,u,_=>by simp
 |x::y,cs,q,u,h=>by
  simp only[List.length_cons] at h;rw[List.zipIdx_cons,List.foldl_cons,ZmV y _ q (u+1) (by simp;omega)];rw[Array.toList_setIfInBounds];have C:q+u<cs.toList.length:=by simp;omega
  have I:(cs.toList.set (q+u) x).take (q+(u+1))=cs.toList.take (q+u)++[x]:=by
   rw[show q+(u+1)=q+u+1 from rfl,List.take_add_one,List.take_set_of_le NL,List.getElem?_set_self C];rfl
  have D:(cs.toList.set (q+u) x).drop (q+(u+1)+y.length)=cs.toList.drop (q+u+(y.length+1)):=by
   rw[List.drop_set_of_lt (by omega)];congr 1;omega
  rw[I,D];simp
theorem Zhi{N:Nat->Option (Nat×Nat)}(O:TR ρ t a):∀{ps:List (Nat×Operand)} {l D:List Cl} {m:Array Value},Zc6 N t l ps=some D->LR ρ l m.toList->
 ∃C,Instr.fill N m (ps.map λp=>(p.1,a.eval p.2))=some C/\LR ρ D C.toList
 |[],l,D,m,h,I=>by
  simp only[Zc6,Option.some.injEq] at h;subst h;exact⟨m,rfl,I⟩
 |(i,x)::r,l,D,m,h,I=>by
  simp only[Zc6] at h;obtain⟨os,Z,h⟩:=Zc h;obtain⟨u,Y,h⟩:=Zc h;split at h
  ·rename_i U
   obtain⟨l1,X,h⟩:=Zc h;have V:=Zl O Y;have y:=V.cells U.1;obtain⟨L,J⟩:=Zpc X I y;have q:(a.eval x).cells.size=os.2:=by rw[<-U.2,y.len,Array.length_toList]
   simp only[Array.length_toList] at L J;have W:=ZmV (a.eval x).cells.toList m os.1 0 (by simpa using J);obtain⟨C,e1,e2⟩:=Zhi O (m:=((a.eval x).cells.zipIdx.foldl (λcs (c,j)=>cs.setIfInBounds (os.1+j) c) m)) h (by
    rw[<-Array.foldl_toList,Array.toList_zipIdx,W];simpa using L)
   refine⟨C,?_,e2⟩;simp only[List.map_cons,Instr.fill,Z];rw[if_neg]
   ·exact e1
   ·simp only[q,Bool.or_eq_true,decide_eq_true_eq,ne_eq,not_true,decide_false,Bool.false_eq_true,false_or];rw[<-q];omega
  ·cases h
end
end Ev
