/- Lemmas for a statement on the tops; conditions: as each says. -/
import Derived.OrdersHeld
import Derived.Deep.RegionHeld
import Derived.Deep.RegionHeld3
import Derived.Laws.Rows
import Derived.Laws.CopyRow
import Derived.Laws.Strings
set_option linter.unusedVariables false
set_option linter.unusedSimpArgs false
set_option maxRecDepth 100000
set_option maxHeartbeats 200000
namespace Go.Proofs.YtlfinljfghhpdaaGreatDoor
open Go
def Zbh:List Oper→Nat→Option Oper
 |[],_=>none
 |o::_,0=>some o
 |_::l,i+1=>Zbh l i
theorem Zdy:∀(l:List Oper) (i:Nat),Zbh l i=l.toArray[i]?
 |[],i=>by simp [Zbh]
 |o::l,0=>by simp [Zbh]
 |o::l,i+1=>by
  have:=Zdy l i;simp only [Zbh,this];simp
def Zdr (ops:Array Oper):List (Nat×Bool)→Array Bool→Bool
 |[],listed=>(Region.ready .any ops listed).isEmpty
 |(i,true)::r,listed=>(Region.ready .any ops listed).contains i&&Region.free .any ops listed i&&Zdr ops r (listed.setIfInBounds i true)
 |(i,false)::r,listed=>(Region.ready .any ops listed==[i])&&Zdr ops r (listed.setIfInBounds i true)
section
variable {P:Program} {l:List Oper} {Q:Exit→Act→World→Prop} {S:World→Prop}
def ZbT (P:Program)(l:List Oper)(Q:Exit→Act→World→Prop)(S:World→Prop):List (Nat×Bool)→Act→World→Prop
 |[],a,w=>Q .normal a w
 |(i,true)::r,a,w=>∃o v,Zbh l i=some o∧YieldsIf P l.toArray S o v a∧ZbT P l Q S r (a.put o.dst v) w
 |(i,false)::r,a,w=>∃o,Zbh l i=some o∧(if Region.wanted o (yielded l.toArray a.tmps)=true then o.wp P a w (fun a' w'=>S w'∧ZbT P l Q S r a' w') Q else ZbT P l Q S r (a.put o.dst undef) w)
theorem Zfk (hsel:Region.noSelect l.toArray=true)(hQ:∀c (a:Act) d v w,Q (.panic c) (a.put d v) w→Q (.panic c) a w):
 ∀(pl:List (Nat×Bool)) (fuel:Nat) (listed:Array Bool) (a:Act) (w:World),Zdr l.toArray pl listed=true→pl.length≤fuel→S w→ZbT P l Q S pl a w→wpAnyH P .any l.toArray Q S fuel listed a w
 |[],fuel,listed,a,w,hok,_,_,h=>wpAnyH_done (by simpa [Zdr] using hok) h fuel
 |(i,true)::r,0,listed,a,w,hok,hf,hS,h=>by simp at hf
 |(i,false)::r,0,listed,a,w,hok,hf,hS,h=>by simp at hf
 |(i,true)::r,fuel+1,listed,a,w,hok,hf,hS,h=>by
  obtain⟨o,v,ho,hy,hr⟩:=h;simp only [Zdr,Bool.and_eq_true] at hok;obtain⟨⟨h1,h2⟩,h3⟩:=hok;rw [Zdy] at ho;exact wpAnyH_take ho hsel h2 h1 (fun c a w=>hQ c a _ _ w) hy hS (Zfk hsel hQ r fuel _ _ w h3 (by simpa using hf) hS hr)
 |(i,false)::r,fuel+1,listed,a,w,hok,hf,hS,h=>by
  obtain⟨o,ho,hr⟩:=h;simp only [Zdr,Bool.and_eq_true,beq_iff_eq] at hok;obtain⟨h1,h3⟩:=hok;rw [Zdy] at ho;refine wpAnyH_all h1 (by simp) fun j hj=> ?_;have hj':j=i:=by simpa using hj
  subst hj';unfold wpOp;rw [ho];simp only;split
  · rename_i hw
    rw [if_pos hw] at hr;exact .inl (Oper.wp_mono (fun a' w' hh=>⟨hh.1,Zfk hsel hQ r fuel _ a' w' h3 (by simpa using hf) hh.1 hh.2⟩) hr)
  · rename_i hw
    rw [if_neg hw] at hr;exact⟨hS,Zfk hsel hQ r fuel _ _ w h3 (by simpa using hf) hS hr⟩
theorem ZiV {id:Nat} {a:Act} {w:World} (S:World→Prop)(pl:List (Nat×Bool))(hm:P.follows .mixedOrders=true)(hsel:Region.noSelect l.toArray=true)
 (hok:Zdr l.toArray pl (Array.replicate l.toArray.size false)=true) (hlen:pl.length≤l.toArray.size)
 (hQ:∀c (a:Act) d v w,Q (.panic c) (a.put d v) w→Q (.panic c) a w) (hS:S w.drew) (h:ZbT P l Q S pl a w.drew):(Code.region id l.toArray true).wp P Q a w:=
 wp_region_held_drew hm hS fun hS=>Zfk hsel hQ pl _ _ a w.drew hok hlen hS h
theorem ZhN {a:Act} {w:World} (h:Q .normal a w):ZbT P l Q S [] a w:=h
theorem Zb1 {i:Nat} {r:List (Nat×Bool)} {o:Oper} {a:Act} {w:World} (ho:Zbh l i=some o)(hw:Region.wanted o (yielded l.toArray a.tmps)=true)(v:Value)(hv:∀w,S w→(execOp a.eval o).run P w= .ok (.value v) w)(h:ZbT P l Q S r (a.put o.dst v) w):ZbT P l Q S ((i,true)::r) a w:=
 ⟨o,v,ho,.inl ⟨hw,hv⟩,h⟩
theorem Zds {i:Nat} {r:List (Nat×Bool)} {o:Oper} {a:Act} {w:World} (ho:Zbh l i=some o)(hw:Region.wanted o (yielded l.toArray a.tmps)=true)
 (h:∀K:Act→World→Prop,Shut (∀a w,S w→ZbT P l Q S r a w→K a w)→o.wp P a w K Q):ZbT P l Q S ((i,false)::r) a w:=
 ⟨o,ho,by rw [if_pos hw];exact h _ (fun a w hS hr=>⟨hS,hr⟩)⟩
end
namespace Ev
noncomputable section
def Bs (l:List UInt8):ByteArray:=⟨l.toArray⟩
inductive Cl where
 |b (x:Bool)|i (k:IntKind) (n:Int)|s (l:List UInt8)
 |zp|zs|zf|zi|zm
 |p (id off:Nat)|g (g off:Nat)|sl (id off len cut:Nat)|fn (f:Nat) (fs cs:List (Nat×Nat))|m (id:Nat)
 deriving DecidableEq
inductive A0 where
 |c (x:Cl)|a (l:List Cl)
 deriving DecidableEq
inductive AV where
 |c (x:Cl)|a (l:List Cl)|t (l:List A0)
 deriving DecidableEq
def A0.av:A0→AV
 | .c x=> .c x
 | .a l=> .a l
def AV.a0:AV→Option A0
 | .c x=>some (.c x)
 | .a l=>some (.a l)
 | .t _=>none
def AV.cells:AV→List Cl
 | .c x=>[x]
 | .a l=>l
 | .t _=>[]
def AV.isT:AV→Bool
 | .t _=>true
 |_=>false
inductive Ob where
 |cl (l:List Cl) (ty sz row:Nat)
 |it (s:List UInt8) (pos:Nat)
 |mp (es:List (A0×A0))
 deriving DecidableEq
abbrev Hp:=List (Nat×Ob)
inductive TK where
 |int (k:IntKind)|bl|str|ptr (e:Nat)|sl (e:Nat)|st (fs:List (Nat×Nat×Nat))|ar (n e:Nat)|mp (k e:Nat)|fn|ot
structure TI where
 k:TK
 size:Nat
 bytes:Nat
 zero:List Cl
def TK.agg:TK→Bool
 | .st _=>true
 | .ar _ _=>true
 |_=>false
inductive Tr (α:Type) where
 |lf
 |nd (l:Tr α) (v:Option α) (r:Tr α)
noncomputable def Tr.get {α:Type} (t:Tr α):Nat→Nat→Option α:=
 Tr.rec (motive:=fun _=>Nat→Nat→Option α) (fun _ _=>none) (fun _ v _ ihl ihr n f=>cond (Nat.beq n 0) v (cond (Nat.beq f 0) none (cond (Nat.beq (n % 2) 0) (ihl (n / 2) (f - 1)) (ihr (n / 2) (f - 1))))) t
theorem ZgR {a b:Nat} (h:a≠b):Nat.beq a b=false:=by
 cases e:Nat.beq a b with
 |false=>rfl
 |true=>exact absurd (Nat.eq_of_beq_eq_true e) h
theorem Tr.get_lf {α:Type} (n f:Nat):(Tr.lf:Tr α).get n f=none:=rfl
theorem Tr.get_nd {α:Type} (l r:Tr α)(v:Option α)(n f:Nat):(Tr.nd l v r).get n f=if n=0 then v else match f with
 |0=>none
 |f+1=>if n % 2=0 then l.get (n / 2) f else r.get (n / 2) f:=by
 show cond (Nat.beq n 0) v (cond (Nat.beq f 0) none (cond (Nat.beq (n % 2) 0) (l.get (n / 2) (f - 1)) (r.get (n / 2) (f - 1))))=_
 by_cases hn:n=0
 · subst hn;rfl
 · have h1:Nat.beq n 0=false:=ZgR hn;rw [h1,if_neg hn];cases f with
   |zero=>rfl
   |succ f=>
    show cond (Nat.beq (n % 2) 0) (l.get (n / 2) f) (r.get (n / 2) f)=_
    by_cases h2:n % 2=0
    · simp only [if_pos h2];rw [h2];rfl
    · have h3:Nat.beq (n % 2) 0=false:=ZgR h2;simp only [if_neg h2];rw [h3];rfl
def Tr.put {α:Type} (x:α):Nat→Nat→Tr α→Tr α
 |0,_,_=> .lf
 |f+1,n,.lf=>if n=0 then .nd .lf (some x) .lf else if n % 2=0 then .nd (Tr.put x f (n / 2) .lf) none .lf else .nd .lf none (Tr.put x f (n / 2) .lf)
 |f+1,n,.nd l v r=>if n=0 then .nd l (some x) r else if n % 2=0 then .nd (Tr.put x f (n / 2) l) v r else .nd l v (Tr.put x f (n / 2) r)
structure Env where
 ty:Nat→Option TI
 fn:Nat→Option Func
 gl:Nat→Option (List Cl)
 eqt:Nat→Bool
noncomputable def frc {α β:Type} (l:List α)(k:List α→β):β:=
 List.rec (motive:=fun _=>(List α→β)→β) (fun k=>k []) (fun x _ ih k=>ih (fun r=>k (x::r))) l k
theorem ZdX {α β:Type}:∀(l:List α) (k:List α→β),frc l k=k l
 |[],_=>rfl
 |x::l,k=>by
  show frc l (fun r=>k (x::r))=_
  rw [ZdX l]
noncomputable def ZaB {α:Type} (l:List α):Nat→Option α:=
 List.rec (motive:=fun _=>Nat→Option α) (fun _=>none) (fun x _ ih n=>Nat.rec (motive:=fun _=>Option α) (some x) (fun m _=>ih m) n) l
noncomputable def setN {α:Type} (v:α)(l:List α):Nat→List α:=
 List.rec (motive:=fun _=>Nat→List α) (fun _=>[]) (fun x r ih n=>Nat.rec (motive:=fun _=>List α) (v::r) (fun m _=>x::ih m) n) l
noncomputable def look (h:Hp)(n:Nat):Option Ob:=
 List.rec (motive:=fun _=>Option Ob) none (fun x _ ih=>cond (Nat.beq x.1 n) (some x.2) ih) h
def upd (id:Nat)(o:Ob):Hp→Hp
 |[]=>[]
 |x::l=>if x.1=id then(id,o)::upd id o l else x::upd id o l
def del (id:Nat):Hp→Hp
 |[]=>[]
 |x::l=>if x.1=id then del id l else x::del id l
def ofC:Value→Option Cl
 | .bool x=>some (.b x)
 | .int k n=>some (.i k n)
 | .string s=>some (.s s.data.toList)
 | .pointer none=>some .zp
 | .slice none 0 0=>some .zs
 | .nilFunc=>some .zf
 | .nilIface=>some .zi
 | .map none=>some .zm
 |_=>none
def ofCs:List Value→Option (List Cl)
 |[]=>some []
 |v::l=>match ofC v,ofCs l with
  |some x,some r=>some (x::r)
  |_,_=>none
def ofV:Value→Option AV
 | .agg cs=>match ofCs cs.toList with
  |some l=>some (.a l)
  |none=>none
 |v=>match ofC v with
  |some x=>some (.c x)
  |none=>none
def ev (t:List AV):Operand→Option AV
 | .tmp i=>ZaB t i
 | .const v=>ofV v
 | .global g=>some (.c (.g g 0))
 | .func f=>some (.c (.fn f [] []))
def mk (ti:TI)(l:List Cl):Option AV:=
 if ti.k.agg then some (.a l) else match l with
  |[x]=>some (.c x)
  |_=>none
def part (ti:TI)(l:List Cl)(off:Nat):Option AV:=
 let r:=(l.drop off).take ti.size
 if r.length=ti.size then mk ti r else none
def ZeP (l:List Cl)(off:Nat)(v:List Cl):Option (List Cl):=
 if off+v.length≤l.length then some (l.take off++(v++l.drop (off+v.length))) else none
def evB (t:List AV)(x:Operand):Option Bool:=match ev t x with
 |some (.c (.b y))=>some y
 |_=>none
def evN (t:List AV)(x:Operand):Option Nat:=match ev t x with
 |some (.c (.i _ (.ofNat n)))=>some n
 |_=>none
def evO (t:List AV)(d:Nat):Option Operand→Option Nat
 |none=>some d
 |some x=>evN t x
def Zef (m h:Nat)(n:Int):Int:=match n with
 | .ofNat x=>if x<h then .ofNat x else(let y:=x % m;if y<h then .ofNat y else Int.ofNat y - Int.ofNat m)
 | .negSucc x=>if x<h then .negSucc x else(let y:=((Int.negSucc x) % (Int.ofNat m)).toNat;if y<h then .ofNat y else Int.ofNat y - Int.ofNat m)
def Zeg (m:Nat)(n:Int):Int:=match n with
 | .ofNat x=>if x<m then .ofNat x else .ofNat (x % m)
 | .negSucc x=>(Int.negSucc x) % (Int.ofNat m)
def Zbq (k:IntKind)(n:Int):Int:=match k with
 | .i64=>Zef 18446744073709551616 9223372036854775808 n
 | .u64=>Zeg 18446744073709551616 n
 | .i32=>Zef 4294967296 2147483648 n
 | .u32=>Zeg 4294967296 n
 | .u16=>Zeg 65536 n
 | .i16=>Zef 65536 32768 n
 | .u8=>Zeg 256 n
 | .i8=>Zef 256 128 n
def pow2 (n:Nat):Int:=Int.ofNat (2^n)
def ZhG (op:BinOp)(k:IntKind)(x y:Int):Option Cl:=
 match op with
 | .add=>some (.i k (Zbq k (x+y)))
 | .sub=>some (.i k (Zbq k (x - y)))
 | .mul=>some (.i k (Zbq k (x*y)))
 | .quo=>if y=0 then none else some (.i k (Zbq k (x.tdiv y)))
 | .rem=>if y=0 then none else some (.i k (x.tmod y))
 | .and=>some (.i k (Zbq k (BitVec.ofInt k.bits x&&&BitVec.ofInt k.bits y).toNat))
 | .or=>some (.i k (Zbq k (BitVec.ofInt k.bits x|||BitVec.ofInt k.bits y).toNat))
 | .xor=>some (.i k (Zbq k (BitVec.ofInt k.bits x^^^BitVec.ofInt k.bits y).toNat))
 | .andNot=>some (.i k (Zbq k (BitVec.ofInt k.bits x&&& ~~~BitVec.ofInt k.bits y).toNat))
 | .eql=>some (.b (x==y))
 | .neq=>some (.b (x !=y))
 | .lss=>some (.b (x<y))
 | .leq=>some (.b (x≤y))
 | .gtr=>some (.b (x>y))
 | .geq=>some (.b (x≥y))
 |_=>none
def shOp (op:BinOp)(k:IntKind)(x y:Int):Option Cl:=
 if y<0 then none else
 match op with
 | .shl=>some (.i k (Zbq k (x*pow2 (min y.toNat k.bits))))
 | .shr=>some (.i k (x.fdiv (pow2 (min y.toNat k.bits))))
 |_=>none
def Ziy (op:BinOp)(x y:List UInt8):Option Cl:=
 match op with
 | .add=>if x.length+y.length≤1000000 then some (.s (x++y)) else none
 | .eql=>some (.b (x==y))
 | .neq=>some (.b !(x==y))
 |_=>none
def Zdx:TK→Cl→Cl→Option Bool
 | .bl,.b x,.b y=>some (x==y)
 | .ptr _,.zp,.zp=>some true
 | .ptr _,.zp,.p _ _=>some false
 | .ptr _,.p _ _,.zp=>some false
 | .sl _,.zs,.zs=>some true
 | .sl _,.zs,.sl _ _ _ _=>some false
 | .sl _,.sl _ _ _ _,.zs=>some false
 | .fn,.zf,.zf=>some true
 | .fn,.zf,.fn _ _ _=>some false
 | .fn,.fn _ _ _,.zf=>some false
 |_,_,_=>none
def shp:List Cl→List Cl→Bool
 |[],[]=>true
 | .b _::l,.b _::m=>shp l m
 | .i k _::l,.i k' _::m=>decide (k=k')&&shp l m
 | .s _::l,.s _::m=>shp l m
 |_,_=>false
def Zfz (op:BinOp)(x:Option Bool):Option AV:=match op,x with
 | .eql,some y=>some (.c (.b y))
 | .neq,some y=>some (.c (.b !y))
 |_,_=>none
def opt {α β:Type} (x:Option α)(f:α→Option β):Option β:=match x with
 |some y=>f y
 |none=>none
def binV (E:Env)(op:BinOp)(ty:Nat)(x y:AV):Option AV:=
 match x,y with
 | .c (.i k a),.c (.i k' b)=>match op with
  | .shl=>opt (shOp op k a b) fun z=>some (.c z)
  | .shr=>opt (shOp op k a b) fun z=>some (.c z)
  |_=>if k=k' then opt (ZhG op k a b) fun z=>some (.c z) else none
 | .c (.s a),.c (.s b)=>opt (Ziy op a b) fun z=>some (.c z)
 | .c a,.c b=>opt (E.ty ty) fun ti=>Zfz op (Zdx ti.k a b)
 | .a l,.a m=>opt (E.ty ty) fun ti=>if E.eqt ty&&shp ti.zero l&&shp ti.zero m then Zfz op (some (decide (l=m))) else none
 |_,_=>none
def unV (op:UnOp):AV→Option AV
 | .c (.b x)=>match op with
  | .not=>some (.c (.b !x))
  |_=>none
 | .c (.i k n)=>match op with
  | .neg=>some (.c (.i k (Zbq k (0 - n))))
  | .xor=>some (.c (.i k (Zbq k (BitVec.ofInt k.bits (if k.signed then -1 else k.max)^^^BitVec.ofInt k.bits n).toNat)))
  |_=>none
 |_=>none
def Zcc (place:Nat→Option (Nat×Nat))(t:List AV):List Cl→List (Nat×Operand)→Option (List Cl)
 |l,[]=>some l
 |l,(i,x)::r=>opt (place i) fun os=>opt (ev t x) fun v=>if v.isT=false∧v.cells.length=os.2 then opt (ZeP l os.1 v.cells) fun l'=>Zcc place t l' r else none
def places (fs:List (Nat×Nat×Nat))(i:Nat):Option (Nat×Nat):=opt (ZaB fs i) fun f=>some f.2
def Zcl:List (Option AV)→Option (List (Nat×Nat))
 |[]=>some []
 |some (.c (.p i o))::r=>opt (Zcl r) fun l=>some ((i,o)::l)
 |_=>none
def pPick (_E:Env)(t:List AV)(c:Operand)(a:Operand)(b:Operand):Option AV:=opt (evB t c) fun y=>if y then ev t a else ev t b
def Zme (E:Env)(t:List AV)(ty:Nat)(ps:Array (Nat×Operand)):Option AV:=opt (E.ty ty) fun ti=>match ti.k with
 | .st fs=>opt (Zcc (places fs) t ti.zero ps.toList) fun l=>some (.a l)
 | .ar _ e=>opt (E.ty e) fun te=>opt (Zcc (fun i=>some (i*te.size,te.size)) t ti.zero ps.toList) fun l=>some (.a l)
 |_=>none
def Zmm (_E:Env)(t:List AV)(x:Operand):Option AV:=match ev t x with
 |some (.c (.p i o))=>some (.c (.p i o))
 |some (.c (.g i o))=>some (.c (.g i o))
 |some (.c (.fn f fs cs))=>some (.c (.fn f fs cs))
 |_=>none
def Zmg (_E:Env)(t:List AV)(x:Operand)(i:Nat):Option AV:=match ev t x with
 |some (.t l)=>opt (ZaB l i) fun v=>some v.av
 |_=>none
def Zmh (E:Env)(t:List AV)(ty:Nat)(x:Operand)(f:Nat):Option AV:=opt (E.ty ty) fun ti=>match ti.k,ev t x with
 | .st fs,some (.a l)=>opt (ZaB fs f) fun fo=>opt (E.ty fo.1) fun tf=>part tf l fo.2.1
 |_,_=>none
def Zmi (E:Env)(t:List AV)(ty:Nat)(x:Operand)(f:Nat):Option AV:=opt (E.ty ty) fun ti=>match ti.k,ev t x with
 | .st fs,some (.c (.p i o))=>opt (ZaB fs f) fun fo=>if fo.2.2=0 then none else some (.c (.p i (o+fo.2.1)))
 | .st fs,some (.c (.g i o))=>opt (ZaB fs f) fun fo=>if fo.2.2=0 then none else some (.c (.g i (o+fo.2.1)))
 |_,_=>none
def Zmj (E:Env)(t:List AV)(ty:Nat)(x:Operand)(i:Operand):Option AV:=opt (evN t i) fun n=>opt (E.ty ty) fun ti=>match ti.k,ev t x with
 | .str,some (.c (.s l))=>opt (ZaB l n) fun u=>some (.c (.i .u8 u.toNat))
 | .ar k e,some (.a l)=>if n<k then opt (E.ty e) fun te=>part te l (n*te.size) else none
 |_,_=>none
def Zmk (E:Env)(t:List AV)(ty:Nat)(x:Operand)(i:Operand):Option AV:=opt (evN t i) fun n=>opt (E.ty ty) fun ti=>match ti.k,ev t x with
 | .ar k e,some (.c (.p i o))=>if n<k then opt (E.ty e) fun te=>some (.c (.p i (o+n*te.size))) else none
 | .ar k e,some (.c (.g i o))=>if n<k then opt (E.ty e) fun te=>some (.c (.g i (o+n*te.size))) else none
 | .sl e,some (.c (.sl i o len _))=>if n<len then opt (E.ty e) fun te=>some (.c (.p i (o+n*te.size))) else none
 |_,_=>none
def Zmn (E:Env)(t:List AV)(ty:Nat)(x:Operand)(lo:Option Operand)(hi:Option Operand):Option AV:=opt (E.ty ty) fun ti=>match ti.k,ev t x with
 | .str,some (.c (.s l))=>opt (evO t 0 lo) fun a=>opt (evO t l.length hi) fun b=>if a≤b∧b≤l.length then some (.c (.s ((l.drop a).take (b - a)))) else none
 | .sl e,some (.c (.sl i o len cut))=>opt (evO t 0 lo) fun a=>opt (evO t len hi) fun b=>if a≤b∧b≤len then opt (E.ty e) fun te=>some (.c (.sl i (o+a*te.size) (b - a) (cut+a))) else none
 | .sl e,some (.c .zs)=>opt (E.ty e) fun _=>opt (evO t 0 lo) fun a=>opt (evO t 0 hi) fun b=>if a=0∧b=0 then some (.c .zs) else none
 |_,_=>none
def Zmf (E:Env)(t:List AV)(s:Nat)(d:Nat)(x:Operand):Option AV:=opt (E.ty s) fun ts=>opt (E.ty d) fun td=>match ts.k,td.k,ev t x with
 | .int _,.int k,some (.c (.i _ n))=>some (.c (.i k (Zbq k n)))
 | .str,.str,some (.c (.s l))=>some (.c (.s l))
 | .int _,.str,some (.c (.i _ n))=>some (.c (.s (Utf8.encode n).data.toList))
 |_,_,_=>none
def Zml (_E:Env)(t:List AV)(f:Nat)(a:Array Operand)(b:Array Operand):Option AV:=opt (Zcl (a.toList.map (ev t))) fun l=>opt (Zcl (b.toList.map (ev t))) fun m=>some (.c (.fn f l m))
def pCall (E:Env)(t:List AV)(c:Call):Option AV:=match c.callee with
 | .builtin .len=>opt (ZaB c.argTypes.toList 0) fun ty=>opt (E.ty ty) fun ti=>opt (ZaB c.args.toList 0) fun x=>match ti.k,ev t x with
  | .str,some (.c (.s l))=>some (.c (.i .i64 l.length))
  | .ar n _,some _=>some (.c (.i .i64 n))
  | .sl _,some (.c .zs)=>some (.c (.i .i64 0))
  | .sl _,some (.c (.sl _ _ len _))=>some (.c (.i .i64 len))
  |_,_=>none
 | .builtin .min=>match c.args.toList with
  |[x,y]=>match ev t x,ev t y with
   |some (.c (.i k a)),some (.c (.i _ b))=>some (.c (.i k (if b<a then b else a)))
   |_,_=>none
  |_=>none
 | .builtin .max=>match c.args.toList with
  |[x,y]=>match ev t x,ev t y with
   |some (.c (.i k a)),some (.c (.i _ b))=>some (.c (.i k (if b>a then b else a)))
   |_,_=>none
  |_=>none
 |_=>none
def pop (E:Env)(t:List AV):Op→Option AV
 | .move x=>ev t x
 | .assign x=>ev t x
 | .pick c a b=>pPick E t c a b
 | .build ty ps=>Zme E t ty ps
 | .nilCheck x=>Zmm E t x
 | .extract x i=>Zmg E t x i
 | .field ty x f=>Zmh E t ty x f
 | .fieldAddr ty x f=>Zmi E t ty x f
 | .index ty x i=>Zmj E t ty x i
 | .indexAddr ty x i=>Zmk E t ty x i
 | .slice ty x lo hi none=>Zmn E t ty x lo hi
 | .binOp op ty x y _=>opt (ev t x) fun a=>opt (ev t y) fun b=>binV E op ty a b
 | .unOp op _ x=>opt (ev t x) fun a=>unV op a
 | .convert s d x=>Zmf E t s d x
 | .makeFunc (.func f) a b=>Zml E t f a b
 | .call c=>pCall E t c
 |_=>none
def zeros {α:Type} (z:List α):Nat→List α
 |0=>[]
 |n+1=>z++zeros z n
def ZgS:List UInt8→List Cl
 |[]=>[]
 |u::l=> .i .u8 u.toNat::ZgS l
def ofBytes:List Cl→Option (List UInt8)
 |[]=>some []
 | .i .u8 (.ofNat n)::l=>if n<256 then opt (ofBytes l) fun r=>some (UInt8.ofNat n::r) else none
 |_=>none
def ZbK (E:Env)(h:Hp)(x:AV)(n:Nat):Option (List Cl):=match x with
 | .c (.p i o)=>match look h i with
  |some (.cl l _ _ _)=>let r:=(l.drop o).take n;if r.length=n then some r else none
  |_=>none
 | .c (.g i o)=>opt (E.gl i) fun l=>let r:=(l.drop o).take n;if r.length=n then some r else none
 |_=>none
def ZhP (E:Env)(t:List AV)(h:Hp)(ty:Nat)(x:Operand):Option AV:=
 opt (E.ty ty) fun ti=>opt (ev t x) fun a=>opt (ZbK E h a ti.size) fun l=>mk ti l
def ZbA (k:A0):List (A0×A0)→Option A0
 |[]=>none
 |e::l=>if e.1=k then some e.2 else ZbA k l
def ZcI (k v:A0):List (A0×A0)→List (A0×A0)
 |[]=>[(k,v)]
 |e::l=>if e.1=k then(k,v)::l else e::ZcI k v l
def Zai (tk:TI)(q:Bool)(k:A0):Bool:=match tk.k,k with
 | .int kk,.c (.i kj _)=>decide (kk=kj)
 | .ar _ _,.a l=>q&&shp tk.zero l
 |_,_=>false
def Zf5 (tk:TI)(q:Bool)(k:A0)(l:List (A0×A0)):Bool:=Zai tk q k&&l.all fun e=>Zai tk q e.1
def Zky (E:Env)(fr:Nat)(_t:List AV)(h:Hp)(e:Nat):Option (AV×Hp):=opt (E.ty e) fun ti=>some (.c (.p fr 0),(fr,.cl ti.zero e 1 0)::h)
def eBox (_E:Env)(fr:Nat)(t:List AV)(h:Hp)(e:Nat)(x:Operand):Option (AV×Hp):=opt (ev t x) fun v=>if v.isT then none else some (.c (.p fr 0),(fr,.cl v.cells e 1 0)::h)
def Zkz (E:Env)(fr:Nat)(t:List AV)(h:Hp)(ty:Nat)(n:Nat)(ps:Array (Nat×Operand)):Option (AV×Hp):=opt (E.ty ty) fun ti=>match ti.k with
 | .sl e=>opt (E.ty e) fun te=>if n*te.size≤100000∧te.size≠0 then opt (Zcc (fun i=>some (i*te.size,te.size)) t (zeros te.zero n) ps.toList) fun l=>some (.c (.sl fr 0 n 0),(fr,.cl l e te.size 0)::h) else none
 |_=>none
def ZkH (E:Env)(_fr:Nat)(t:List AV)(h:Hp)(ty:Nat)(a:Operand)(x:Operand):Option (AV×Hp):=opt (E.ty ty) fun ti=>match ev t a,ev t x with
 |some (.c (.p i o)),some v=>if v.isT=false∧v.cells.length=ti.size then match look h i with
  |some (.cl l e z r)=>opt (ZeP l o v.cells) fun l'=>frc l' fun l'=>some (.t [],upd i (.cl l' e z r) h)
  |_=>none else none
 |_,_=>none
def ZkD (E:Env)(fr:Nat)(t:List AV)(h:Hp)(ty:Nat)(n:Operand)(c:Operand):Option (AV×Hp):=opt (E.ty ty) fun ti=>match ti.k with
 | .sl e=>opt (E.ty e) fun te=>opt (evN t n) fun a=>opt (evN t c) fun b=>if a≤b∧b≤100000∧te.bytes*b≤100000000∧te.size≠0 then some (.c (.sl fr 0 a 0),(fr,.cl (zeros te.zero a) e te.size (if a<b then 1 else 0))::h) else none
 |_=>none
def ZkG (E:Env)(_fr:Nat)(t:List AV)(h:Hp)(ty:Nat)(x:Operand)(lo:Option Operand)(hi:Option Operand):Option (AV×Hp):=opt (E.ty ty) fun ti=>match ti.k,ev t x with
 | .ar n e,some (.c (.p i off))=>opt (E.ty e) fun te=>opt (evO t 0 lo) fun a=>opt (evO t n hi) fun b=>match look h i,te.size with
  |some (.cl l _ 1 0),1=>if off+n≤l.length∧a≤b∧b≤n then some (.c (.sl i (off+a) (b - a) (l.length - (n - a))),h) else none
  |_,_=>none
 |_,_=>none
def ZkC (_E:Env)(fr:Nat)(_t:List AV)(h:Hp)(_ty:Nat):Option (AV×Hp):=some (.c (.m fr),(fr,.mp [])::h)
def ZkA (E:Env)(fr:Nat)(t:List AV)(h:Hp)(s:Nat)(d:Nat)(x:Operand):Option (AV×Hp):=opt (E.ty s) fun ts=>opt (E.ty d) fun td=>match ts.k,td.k,ev t x with
 | .sl e,.str,some (.c .zs)=>opt (E.ty e) fun te=>match te.k with
  | .int .u8=>some (.c (.s []),h)
  |_=>none
 | .sl e,.str,some (.c (.sl i o len _))=>opt (E.ty e) fun te=>match te.k,te.size with
  | .int .u8,1=>opt (ZbK E h (.c (.p i o)) len) fun l=>opt (ofBytes l) fun r=>some (.c (.s r),h)
  |_,_=>none
 | .str,.sl e,some (.c (.s l))=>opt (E.ty e) fun te=>match te.k,te.size with
  | .int .u8,1=>if l.length≤100000 then some (.c (.sl fr 0 l.length 0),(fr,.cl (ZgS l) e 1 2)::h) else none
  |_,_=>none
 |_,_,_=>none
def ZkF (E:Env)(fr:Nat)(t:List AV)(h:Hp)(ty:Nat)(x:Operand):Option (AV×Hp):=opt (E.ty ty) fun ti=>match ti.k,ev t x with
 | .str,some (.c (.s l))=>some (.c (.p fr 0),(fr,.it l 0)::h)
 |_,_=>none
def eNext (_E:Env)(_fr:Nat)(t:List AV)(h:Hp)(x:Operand):Option (AV×Hp):=match ev t x with
 |some (.c (.p i 0))=>match look h i with
  |some (.it l pos)=>if pos<l.length then
   some (.t [.c (.b true),.c (.i .i64 pos),.c (.i .i32 (Utf8.decode (Bs l) pos).1)],upd i (.it l (pos+(Utf8.decode (Bs l) pos).2)) h)
   else some (.t [.c (.b false)],h)
  |_=>none
 |_=>none
def ZkB (E:Env)(_fr:Nat)(t:List AV)(h:Hp)(ty:Nat)(x:Operand)(k:Operand)(ok:Bool):Option (AV×Hp):=opt (E.ty ty) fun ti=>match ti.k,ev t x with
 | .mp kt e,some (.c (.m i))=>opt (E.ty kt) fun tk=>opt (E.ty e) fun te=>opt (ev t k) fun kv=>opt kv.a0 fun kc=>opt (mk te te.zero) fun zv=>opt zv.a0 fun z=>match look h i with
  |some (.mp es)=>if Zf5 tk (E.eqt kt) kc es then some (if ok then .t [(ZbA kc es).getD z,.c (.b (ZbA kc es).isSome)] else((ZbA kc es).getD z).av,h) else none
  |_=>none
 |_,_=>none
def ZkE (E:Env)(_fr:Nat)(t:List AV)(h:Hp)(ty:Nat)(x:Operand)(k:Operand)(v:Operand):Option (AV×Hp):=opt (E.ty ty) fun ti=>match ti.k,ev t x with
 | .mp kt _,some (.c (.m i))=>opt (E.ty kt) fun tk=>opt (ev t k) fun kv=>opt kv.a0 fun kc=>opt (ev t v) fun vv=>opt vv.a0 fun vc=>match look h i with
  |some (.mp es)=>if Zf5 tk (E.eqt kt) kc es then some (.t [],upd i (.mp (ZcI kc vc es)) h) else none
  |_=>none
 |_,_=>none
def Zhe (E:Env)(fr:Nat)(t:List AV)(h:Hp)(ts tx:Nat)(s x:Operand):Option (AV×Hp):=opt (E.ty ts) fun ti=>opt (E.ty tx) fun tj=>match ti.k,tj.k with
 | .sl e,.int .i64=>opt (E.ty e) fun te=>opt (ev t x) fun xv=>match xv with
  | .c (.i .i64 (.ofNat m))=>if te.bytes=1∧te.size=1∧0<m∧m≤100000 then(match ev t s with
   |some (.c .zs)=>some (.c (.sl fr 0 m 0),(fr,.cl (zeros te.zero m) e te.size 1)::h)
   |some (.c (.sl j o len cut))=>match look h j with
    |some (.cl l e' z k)=>if k≤1∧o=0∧cut=0∧l.length=len*te.size∧len+m≤100000∧z=te.size∧e'=e then frc (l++zeros te.zero m) fun l3=>some (.c (.sl fr 0 (len+m) 0),(fr,.cl l3 e te.size 1)::del j h) else none
    |_=>none
   |_=>none) else none
  |_=>none
 |_,_=>none
def Zfs (E:Env)(fr:Nat)(t:List AV)(h:Hp)(c:Call):Option (AV×Hp):=match c.callee with
 | .builtin .append=>match c.argTypes.toList,c.args.toList with
  |ts::tx::[],s::x::[]=>if ts=tx then opt (E.ty ts) fun ti=>match ti.k with
   | .sl e=>opt (E.ty e) fun te=>if te.bytes≤1000∧te.size≠0 then(match ev t s,ev t x with
    |some (.c .zs),some (.c .zs)=>some (.c .zs,h)
    |some (.c (.sl i o len cut)),some (.c .zs)=>some (.c (.sl i o len cut),h)
    |some (.c .zs),some (.c (.sl i o len _))=>if len=0 then some (.c .zs,h) else if len≤100000 then opt (ZbK E h (.c (.p i o)) (len*te.size)) fun l=>some (.c (.sl fr 0 len 0),(fr,.cl l e te.size 1)::h) else none
    |some (.c (.sl j o len cut)),some (.c (.sl i o2 len2 _))=>
     if len2=0 then some (.c (.sl j o len cut),h)
     else opt (ZbK E h (.c (.p i o2)) (len2*te.size)) fun l2=>match look h j with
      |some (.cl l e' z k)=>if k≤1∧o=0∧cut=0∧l.length=len*te.size∧len+len2≤100000∧z=te.size∧e'=e then frc (l++l2) fun l3=>some (.c (.sl fr 0 (len+len2) 0),(fr,.cl l3 e te.size 1)::del j h) else none
      |_=>none
    |_,_=>none) else none
   |_=>none else Zhe E fr t h ts tx s x
  |_,_=>none
 |_=>none
def eff (E:Env)(fr:Nat)(t:List AV)(h:Hp):Op→Option (AV×Hp)
 | .alloc e=>Zky E fr t h e
 | .box e x=>eBox E fr t h e x
 | .buildSlice ty n ps=>Zkz E fr t h ty n ps
 | .load ty x=>opt (ZhP E t h ty x) fun v=>some (v,h)
 | .store ty a x=>ZkH E fr t h ty a x
 | .makeSlice ty n c=>ZkD E fr t h ty n c
 | .slice ty x lo hi none=>ZkG E fr t h ty x lo hi
 | .makeMap ty none=>ZkC E fr t h ty
 | .convert s d x=>ZkA E fr t h s d x
 | .range ty x=>ZkF E fr t h ty x
 | .next x true=>eNext E fr t h x
 | .lookup ty x k ok=>ZkB E fr t h ty x k ok
 | .mapUpdate ty x k v=>ZkE E fr t h ty x k v
 | .call c=>Zfs E fr t h c
 |_=>none
end
end Ev
namespace Ev
theorem Zgk (m h:Nat)(hm:m=2*h)(hh:0<h)(n:Int):Zef m h n=if n % (m:Int)≥(h:Int) then n % (m:Int) - (m:Int) else n % (m:Int):=by
 subst hm;unfold Zef;cases n with
 |ofNat x=>
  simp only [Int.ofNat_eq_natCast];have e:((x:Int) % ((2*h:Nat):Int))=((x % (2*h):Nat):Int):=by simp
  rw [e];by_cases hx:x<h
  · rw [if_pos hx,Nat.mod_eq_of_lt (by omega),if_neg (by omega)]
  · rw [if_neg hx];by_cases hy:x % (2*h)<h
    · rw [if_pos hy,if_neg (by omega)]
    · rw [if_neg hy,if_pos (by omega)]
 |negSucc x=>
  simp only [Int.ofNat_eq_natCast];have h0:=Int.emod_nonneg (Int.negSucc x) (b:=((2*h:Nat):Int)) (by omega);have h1:=Int.emod_lt_of_pos (Int.negSucc x) (b:=((2*h:Nat):Int)) (by omega);by_cases hx:x<h
  · rw [if_pos hx];have e:(Int.negSucc x) % ((2*h:Nat):Int)=(Int.negSucc x)+((2*h:Nat):Int):=by
     have e1:((Int.negSucc x)+((2*h:Nat):Int)) % ((2*h:Nat):Int)=(Int.negSucc x) % ((2*h:Nat):Int):=Int.add_emod_right ..;rw [←e1];exact Int.emod_eq_of_lt (by rw [Int.negSucc_eq];omega) (by rw [Int.negSucc_eq];omega)
    rw [e,if_pos (by rw [Int.negSucc_eq];omega)];omega
  · rw [if_neg hx];by_cases hy:((Int.negSucc x) % ((2*h:Nat):Int)).toNat<h
    · rw [if_pos hy,if_neg (by omega)];omega
    · rw [if_neg hy,if_pos (by omega)];omega
theorem Zgl (m:Nat)(n:Int):Zeg m n=n % (m:Int):=by
 unfold Zeg;cases n with
 |ofNat x=>
  simp only [Int.ofNat_eq_natCast];by_cases hx:x<m
  · rw [if_pos hx];rw [Int.emod_eq_of_lt (by omega) (by omega)]
  · rw [if_neg hx];simp
 |negSucc x=>rfl
theorem Zee (k:IntKind)(n:Int):Zbq k n=k.wrap n:=by
 have e64:((2:Int)^64)=((18446744073709551616:Nat):Int):=by decide
 have e63:((2:Int)^63)=((9223372036854775808:Nat):Int):=by decide
 have e32:((2:Int)^32)=((4294967296:Nat):Int):=by decide
 have e31:((2:Int)^31)=((2147483648:Nat):Int):=by decide
 have e16:((2:Int)^16)=((65536:Nat):Int):=by decide
 have e15:((2:Int)^15)=((32768:Nat):Int):=by decide
 have e8:((2:Int)^8)=((256:Nat):Int):=by decide
 have e7:((2:Int)^7)=((128:Nat):Int):=by decide
 cases k<;>simp only [Zbq,IntKind.wrap,IntKind.bits,IntKind.signed,e64,e32,e16,e8,Bool.true_and,Bool.false_and,Bool.false_eq_true,if_false,decide_eq_true_eq,show 64 - 1=63 from rfl,show 32 - 1=31 from rfl,show 16 - 1=15 from rfl,show 8 - 1=7 from rfl,e63,e31,e15,e7]
 · exact Zgk 256 128 rfl (by decide) n
 · exact Zgk 65536 32768 rfl (by decide) n
 · exact Zgk 4294967296 2147483648 rfl (by decide) n
 · exact Zgk 18446744073709551616 9223372036854775808 rfl (by decide) n
 · exact Zgl 256 n
 · exact Zgl 65536 n
 · exact Zgl 4294967296 n
 · exact Zgl 18446744073709551616 n
theorem Zs8 (n:Nat):pow2 n=(2:Int)^n:=by
 unfold pow2;rw [Int.ofNat_eq_natCast,Int.natCast_pow];rfl
def PW {α β:Type} (R:α→β→Prop):List α→List β→Prop
 |[],[]=>True
 |x::l,y::m=>R x y∧PW R l m
 |_,_=>False
section
variable {α β:Type} {R S:α→β→Prop}
theorem PW.len:∀{l:List α} {m:List β},PW R l m→l.length=m.length
 |[],[],_=>rfl
 |_::_,_::_,h=>by simp [PW.len h.2]
 |[],_::_,h=>h.elim
 |_::_,[],h=>h.elim
theorem PW.mono (hR:∀x y,R x y→S x y):∀{l:List α} {m:List β},PW R l m→PW S l m
 |[],[],_=>trivial
 |_::_,_::_,h=>⟨hR _ _ h.1,PW.mono hR h.2⟩
 |[],_::_,h=>h.elim
 |_::_,[],h=>h.elim
theorem PW.get:∀{l:List α} {m:List β} {i:Nat} {x:α},PW R l m→l[i]? =some x→∃y,m[i]? =some y∧R x y
 |x::l,y::m,0,z,h,hx=>by
  simp at hx;subst hx;exact⟨y,by simp,h.1⟩
 |x::l,y::m,i+1,z,h,hx=>by
  simp at hx;simpa using PW.get h.2 hx
 |[],_,_,_,_,hx=>by simp at hx
 |_::_,[],_,_,h,_=>h.elim
theorem PW.app:∀{l l':List α} {m m':List β},PW R l m→PW R l' m'→PW R (l++l') (m++m')
 |[],_,[],_,_,h'=>h'
 |_::_,_,_::_,_,h,h'=>⟨h.1,PW.app h.2 h'⟩
 |[],_,_::_,_,h,_=>h.elim
 |_::_,_,[],_,h,_=>h.elim
theorem PW.take:∀(n:Nat) {l:List α} {m:List β},PW R l m→PW R (l.take n) (m.take n)
 |0,_,_,_=>by simp [PW]
 |n+1,[],[],_=>by simp [PW]
 |n+1,_::_,_::_,h=>⟨h.1,PW.take n h.2⟩
 |n+1,[],_::_,h=>h.elim
 |n+1,_::_,[],h=>h.elim
theorem PW.drop:∀(n:Nat) {l:List α} {m:List β},PW R l m→PW R (l.drop n) (m.drop n)
 |0,_,_,h=>by simpa using h
 |n+1,[],[],_=>by simp [PW]
 |n+1,_::_,_::_,h=>by simpa using PW.drop n h.2
 |n+1,[],_::_,h=>h.elim
 |n+1,_::_,[],h=>h.elim
theorem PW.set:∀(n:Nat) {l:List α} {m:List β} {x:α} {y:β},PW R l m→R x y→PW R (l.set n x) (m.set n y)
 |_,[],[],_,_,_,_=>by simp [PW]
 |0,_::_,_::_,_,_,h,hx=>⟨hx,h.2⟩
 |n+1,_::_,_::_,_,_,h,hx=>⟨h.1,PW.set n h.2 hx⟩
 |_,[],_::_,_,_,h,_=>h.elim
 |_,_::_,[],_,_,h,_=>h.elim
end
theorem ZaZ {α:Type}:∀(l:List α) (n:Nat),ZaB l n=l[n]?
 |[],_=>rfl
 |_::_,0=>rfl
 |_::l,n+1=>by
  rw [List.getElem?_cons_succ,←ZaZ l n];rfl
theorem Zm2 {α:Type} (v:α):∀(l:List α) (n:Nat),setN v l n=l.set n v
 |[],_=>rfl
 |_::_,0=>rfl
 |x::l,n+1=>by
  rw [List.set_cons_succ,←Zm2 v l n];rfl
abbrev Rho:=Nat→Option (Nat×Nat)
def Rho.le (ρ σ:Rho):Prop:=∀i x,ρ i=some x→σ i=some x
theorem Rho.le_refl (ρ:Rho):ρ.le ρ:=fun _ _ h=>h
theorem Rho.le_trans {ρ σ τ:Rho} (h:ρ.le σ)(k:σ.le τ):ρ.le τ:=fun i x hx=>k i x (h i x hx)
def PtR (ρ:Rho)(x:Nat×Nat)(v:Value):Prop:=∃b c,ρ x.1=some (b,c)∧v= .pointer (some ⟨b,x.2,none⟩)
def VR (ρ:Rho):Cl→Value→Prop
 | .b x,v=>v= .bool x
 | .i k n,v=>v= .int k n
 | .s l,v=>v= .string (Bs l)
 | .zp,v=>v= .pointer none
 | .zs,v=>v= .slice none 0 0
 | .zf,v=>v= .nilFunc
 | .zi,v=>v= .nilIface
 | .zm,v=>v= .map none
 | .p id off,v=>∃b c,ρ id=some (b,c)∧v= .pointer (some ⟨b,off,none⟩)
 | .g g off,v=>v= .pointer (some ⟨g,off,none⟩)
 | .sl id off len cut,v=>∃b c o,ρ id=some (b,c)∧cut+len≤c∧(len≠0∨cut=0→o=off)∧v= .slice (some ⟨b,o,none⟩) len (c - cut)
 | .fn f fs cs,v=>∃m n:List Value,v= .func (.func f) m.toArray n.toArray∧PW (PtR ρ) fs m∧PW (PtR ρ) cs n
 | .m id,v=>∃b c,ρ id=some (b,c)∧v= .map (some b)
theorem PtR.mono {ρ σ:Rho} (h:ρ.le σ)(x:Nat×Nat)(v:Value)(hx:PtR ρ x v):PtR σ x v:=by
 obtain⟨b,c,h1,h2⟩:=hx;exact⟨b,c,h _ _ h1,h2⟩
theorem VR.mono {ρ σ:Rho} (h:ρ.le σ):∀(x:Cl) (v:Value),VR ρ x v→VR σ x v
 | .b _,_,hx| .i _ _,_,hx| .s _,_,hx| .zp,_,hx| .zs,_,hx| .zf,_,hx| .zi,_,hx| .zm,_,hx| .g _ _,_,hx=>hx
 | .p _ _,_,⟨b,c,h1,h2⟩=>⟨b,c,h _ _ h1,h2⟩
 | .sl _ _ _ _,_,⟨b,c,o,h1,h2,h3,h4⟩=>⟨b,c,o,h _ _ h1,h2,h3,h4⟩
 | .fn _ _ _,_,⟨m,n,h1,h2,h3⟩=>⟨m,n,h1,h2.mono (PtR.mono h),h3.mono (PtR.mono h)⟩
 | .m _,_,⟨b,c,h1,h2⟩=>⟨b,c,h _ _ h1,h2⟩
theorem VR.one {ρ:Rho}:∀{x:Cl} {v:Value},VR ρ x v→v.oneCell'=true∧v.cells=#[v]∧(∀cs,v≠ .agg cs)∧∀cs,v≠ .tuple cs
 | .b _,_,hx| .i _ _,_,hx| .s _,_,hx| .zp,_,hx| .zs,_,hx| .zf,_,hx| .zi,_,hx| .zm,_,hx| .g _ _,_,hx=>by
  simp only [VR] at hx;subst hx;exact⟨rfl,rfl,by simp,by simp⟩
 | .p _ _,_,⟨b,c,h1,h2⟩=>by subst h2;exact⟨rfl,rfl,by simp,by simp⟩
 | .sl _ _ _ _,_,⟨b,c,o,h1,h2,h3,h4⟩=>by subst h4;exact⟨rfl,rfl,by simp,by simp⟩
 | .fn _ _ _,_,⟨m,n,h1,h2,h3⟩=>by subst h1;exact⟨rfl,rfl,by simp,by simp⟩
 | .m _,_,⟨b,c,h1,h2⟩=>by subst h2;exact⟨rfl,rfl,by simp,by simp⟩
abbrev LR (ρ:Rho):=PW (VR ρ)
def A0R (ρ:Rho):A0→Value→Prop
 | .c x,v=>VR ρ x v
 | .a l,v=>∃m,v= .agg (List.toArray m)∧LR ρ l m
def AR (ρ:Rho):AV→Value→Prop
 | .c x,v=>VR ρ x v
 | .a l,v=>∃m,v= .agg (List.toArray m)∧LR ρ l m
 | .t l,v=>∃m,v= .tuple (List.toArray m)∧PW (A0R ρ) l m
theorem A0R.mono {ρ σ:Rho} (h:ρ.le σ):∀(x:A0) (v:Value),A0R ρ x v→A0R σ x v
 | .c _,_,hx=>VR.mono h _ _ hx
 | .a _,_,⟨m,h1,h2⟩=>⟨m,h1,h2.mono (VR.mono h)⟩
theorem AR.mono {ρ σ:Rho} (h:ρ.le σ):∀(x:AV) (v:Value),AR ρ x v→AR σ x v
 | .c _,_,hx=>VR.mono h _ _ hx
 | .a _,_,⟨m,h1,h2⟩=>⟨m,h1,h2.mono (VR.mono h)⟩
 | .t _,_,⟨m,h1,h2⟩=>⟨m,h1,h2.mono (A0R.mono h)⟩
theorem A0R.av {ρ:Rho}:∀{x:A0} {v:Value},A0R ρ x v→AR ρ x.av v
 | .c _,_,h=>h
 | .a _,_,h=>h
theorem AR.cells {ρ:Rho}:∀{x:AV} {v:Value},AR ρ x v→x.isT=false→LR ρ x.cells v.cells.toList
 | .c x,v,h,_=>by
  rw [(VR.one h).2.1];exact⟨h,trivial⟩
 | .a l,v,⟨m,h1,h2⟩,_=>by subst h1;exact h2
 | .t l,v,_,h=>by simp [AV.isT] at h
theorem LR.one' {ρ:Rho}:∀{l:List Cl} {m:List Value},LR ρ l m→∀v∈m,v.oneCell'=true
 |[],[],_,_,hv=>by simp at hv
 |_::_,_::_,h,v,hv=>by
  rcases List.mem_cons.1 hv with rfl|hv
  · exact(VR.one h.1).1
  · exact LR.one' h.2 v hv
 |[],_::_,h,_,_=>h.elim
 |_::_,[],h,_,_=>h.elim
abbrev TR (ρ:Rho)(t:List AV)(a:Act):Prop:=PW (AR ρ) t a.tmps.toList
theorem Zed (ρ:Rho):AR ρ (.t []) undef:=⟨[],rfl,trivial⟩
theorem Zl1 {ρ:Rho} {v:Value} {x:Cl} (h:ofC v=some x):VR ρ x v:=by
 unfold ofC at h;split at h<;>first|(simp at h;done)|(injection h with h;subst h;first|rfl|exact congrArg Value.string (by simp [Bs]))
theorem Zl2 {ρ:Rho}:∀{l:List Value} {m:List Cl},ofCs l=some m→LR ρ m l
 |[],m,h=>by simp only [ofCs,Option.some.injEq] at h;subst h;trivial
 |v::l,m,h=>by
  simp only [ofCs] at h;split at h
  · rename_i x r h1 h2
    injection h with h;subst h
    exact⟨Zl1 h1,Zl2 h2⟩
  · cases h
theorem ofV_ok {ρ:Rho} {v:Value} {x:AV} (h:ofV v=some x):AR ρ x v:=by
 unfold ofV at h;split at h
 · split at h
   · rename_i cs _ l h1
     injection h with h;subst h
     exact⟨cs.toList,by simp,Zl2 h1⟩
   · cases h
 · split at h
   · rename_i h1
     injection h with h;subst h
     exact Zl1 h1
   · cases h
theorem Zhs {a:Array Value} {i:Nat} {y:Value} (h:a.toList[i]? =some y):a.getD i undef=y:=by
 have:a[i]? =some y:=by simpa using h
 rw [Array.getD_eq_getD_getElem?,this];rfl
theorem Zh {ρ:Rho} {t:List AV} {a:Act} {x:Operand} {v:AV} (ht:TR ρ t a)(h:ev t x=some v):AR ρ v (a.eval x):=by
 cases x with
 |tmp i=>
  simp only [ev,ZaZ] at h;obtain⟨y,hy,hr⟩:=ht.get h;rw [show a.eval (.tmp i)=a.tmps.getD i undef from rfl,Zhs hy];exact hr
 |const v=>exact ofV_ok h
 |global g=>simp only [ev,Option.some.injEq] at h;subst h;rfl
 |func f=>simp only [ev,Option.some.injEq] at h;subst h;exact⟨[],[],rfl,trivial,trivial⟩
theorem put_ok {ρ:Rho} {t:List AV} {a:Act} {d:Nat} {v:AV} {V:Value} (ht:TR ρ t a)(hv:AR ρ v V):TR ρ (t.set d v) (a.put (some d) V):=by
 unfold TR;show PW _ _ (a.tmps.setIfInBounds d V).toList
 rw [Array.toList_setIfInBounds];exact ht.set d hv
def TKok (P:Program):TK→TypeDesc→Prop
 | .int k,.int k'=>k=k'
 | .bl,.bool=>True
 | .str,.string=>True
 | .ptr e,.pointer e'=>e=e'
 | .sl e,.slice e'=>e=e'
 | .ar n e,.array n' e'=>n=n'∧e=e'
 | .mp k e,.map k' e'=>k=k'∧e=e'
 | .fn,.func _ _ _=>True
 | .st fs,.struct fields=>fs=fields.toList.map (fun f=>(f.type,f.offset,P.cellsOf f.type))∧∀f∈fields,(P.info? f.type).isSome=true
 | .ot,.interface _=>True
 | .ot,.tuple _=>True
 |_,_=>False
structure TyOk (P:Program)(t:Nat)(ti:TI):Prop where
 ex:∃info desc z,P.info? t=some info∧P.underlying t=some desc∧info.size=ti.size∧info.bytes=ti.bytes∧TKok P ti.k desc∧info.zero=some z∧(∀ρ,LR ρ ti.zero z.cells.toList)∧(ti.k.agg=true→∃m,z= .agg m)∧(ti.k.agg=false→∀m,z≠ .agg m)
 zlen:ti.zero.length=ti.size
theorem TKok.agg {P:Program}:∀{k:TK} {d:TypeDesc},TKok P k d→k.agg=(match d with| .struct _| .array _ _=>true|_=>false)
 |k,d,h=>by cases k<;>cases d<;>first|rfl|exact h.elim
end Ev
end Go.Proofs.YtlfinljfghhpdaaGreatDoor
