/- Lemmas for a statement on the tops; conditions: as each says. -/
import Derived.OwnWalk
import Derived.Lib.EndianBits
import Derived.Test.YtjilfbhkdjanhaaGreatDoorM2
set_option linter.all false
set_option maxRecDepth 100000
set_option maxHeartbeats 2000000
open Go.Proofs.Tryz
namespace Go.Proofs.YtjilfbhkdjanhaaGreatDoor
open Go
def Zgb(x:UInt8)(r:List UInt8):Bool:=x==255&&(match r with|[]=>true|y::_=>y==0||decide (224<=y.toNat))
def Zag:List UInt8->List UInt8
 |[]=>[]
 |x::r=>if Zgb x r then x::0::Zag r else x::Zag r
def ZaK:List UInt8->Nat
 |[]=>0
 |x::r=>(if Zgb x r then 1 else 0)+ZaK r
def Zae:Bool->List UInt8->List UInt8
 |_,[]=>[]
 |f,x::r=>if x==0&&f then Zae false r else x::Zae (x==255) r
def ZdQ:∀l,ZaK l<=l.length
 |[]=>Nat.le_refl _
 |x::r=>by have:=ZdQ r;simp only[ZaK,List.length_cons];split<;>omega
def ZeB:∀l,(Zag l).length=l.length+ZaK l
 |[]=>rfl
 |x::r=>by have:=ZeB r;simp only[Zag,ZaK];split<;>simp only[List.length_cons]<;>omega
def looksAt(l:List UInt8)(i:Nat):Bool:=match l.drop i with|[]=>false|x::r=>Zgb x r
def ZvW(l:List UInt8)(i:Nat)(h:i<l.length):
 Zag (l.drop i)=(if looksAt l i then [l[i],0] else [l[i]])++Zag (l.drop (i+1)):=by
 rw[List.drop_eq_getElem_cons h];simp only[Zag,looksAt,List.drop_eq_getElem_cons h];split<;>rfl
def ZtP(l:List UInt8)(i:Nat)(h:i<l.length):
 ZaK (l.drop i)=(if looksAt l i then 1 else 0)+ZaK (l.drop (i+1)):=by
 rw[List.drop_eq_getElem_cons h];simp only[ZaK,looksAt,List.drop_eq_getElem_cons h]
def Ztv(f:Bool)(l:List UInt8)(i:Nat)(h:i<l.length):
 Zae f (l.drop i)=if l[i]==0&&f then Zae false (l.drop (i+1)) else l[i]::Zae (l[i]==255) (l.drop (i+1)):=by
 rw[List.drop_eq_getElem_cons h];simp only[Zae]
def Zaq(n:Nat):List UInt8:=[UInt8.ofNat (n / 2097152 % 128),UInt8.ofNat (n / 16384 % 128),UInt8.ofNat (n / 128 % 128),UInt8.ofNat (n % 128)]
def ZbL(l:List UInt8):Nat:=l.foldl (λn x=>n*128+x.toNat) 0
structure InS where
 t:List UInt8
 n:Nat
 base:Nat
 e:Nat
 a:Nat
def Zhy:Nat:=9223372036854775807
namespace InS
def place(s:InS)(k:Nat):Nat:=if k>Zhy - s.base then Zhy else s.base+k
def fail(s:InS)(e a:Nat):InS:=if s.e=0/\e≠0 then{s with e:=e,a:=a} else s
def short(s:InS):InS:=s.fail 1 (s.place s.t.length)
def left(s:InS):Nat:=if s.e=0 then s.t.length - s.n else 0
def at_(s:InS):Nat:=s.place s.n
def take(s:InS)(k:Nat):List UInt8×InS:=
 if s.e≠0 then([],s) else if s.t.length - s.n<k then([],s.short)
 else((s.t.drop s.n).take k,{s with n:=s.n+k})
def rest(s:InS):List UInt8×InS:=s.take s.left
def peek(s:InS)(k:Nat):List UInt8:=if s.e≠0 then [] else(s.t.drop s.n).take k
def bigN(l:List UInt8):Nat:=l.foldl (λn x=>(n*256+x.toNat) % 18446744073709551616) 0
def big(s:InS)(w:Nat):Nat×InS:=let p:=s.take (min w 8);(bigN p.1,p.2)
def high:List UInt8->Option Nat
 |[]=>none
 |x::r=>if 128<=x.toNat then some 0 else(high r).map (· +1)
def safe(s:InS):Nat×InS:=
 let p:=s.take 4
 match high p.1 with
 |some i=>(0,p.2.fail 1 (p.2.place (p.2.n - p.1.length+i)))
 |none=>(ZbL p.1,p.2)
def differ:List UInt8->List UInt8->Option Nat
 |x::r,y::q=>if x=y then(differ r q).map (· +1) else some 0
 |_,_=>none
def want(s:InS)(w:List UInt8):Bool×InS:=
 if s.e≠0 then(false,s) else
 match differ w (s.t.drop s.n) with
 |some i=>(false,s.fail 1 (s.place (s.n+i)))
 |none=>if s.t.length - s.n<w.length then(false,s.short) else(true,{s with n:=s.n+w.length})
end InS
def Zas(n:Nat):Nat->List UInt8
 |0=>[]
 |w+1=>UInt8.ofNat (n / 256^w % 256)::Zas n w
def ZfV(n:Nat):∀w,(Zas n w).length=w
 |0=>rfl
 |w+1=>by simp[Zas,ZfV n w]
open Go Go.RowKit
def Zfv{w:World}{k j g:Nat}(h:g≠k)(v:Value):(w.setCell ⟨k,j,none⟩ v).heap[g]?=w.heap[g]?:=heap_setCell_other w ⟨k,j,none⟩ g v h
def five(s:InS):Array Value:=#[.string (B s.t),.int .i64 s.n,.int .i64 s.base,.int .i64 s.e,.int .i64 s.a]
structure InAt (w:World)(K:Nat)(s:InS):Prop where
 row:w.heap[K]? =some (.cells (five s) 108 (0,0))
 fits:s.n<=s.t.length
 room:s.base+s.t.length<=1000000000
section
variable {w w':World} {K:Nat} {s:InS}
theorem InAt.len(h:InAt w K s):s.t.length<=1000000000:=by have:=h.room;omega
theorem InAt.base(h:InAt w K s):s.base<=1000000000:=by have:=h.room;omega
theorem InAt.lt(h:InAt w K s):K<w.heap.size:=(Array.getElem?_eq_some_iff.1 h.row).1
theorem InAt.get(h:InAt w K s):w.cell? ⟨K,0,none⟩=some (.string (B s.t))/\w.cell? ⟨K,1,none⟩=some (.int .i64 s.n)/\w.cell? ⟨K,2,none⟩=some (.int .i64 s.base)/\w.cell? ⟨K,3,none⟩=some (.int .i64 s.e)/\w.cell? ⟨K,4,none⟩=some (.int .i64 s.a):=by
 refine⟨?_,?_,?_,?_,?_⟩<;>(rw[cell_of_row _ K _ _ _ (0,0) h.row];rfl)
theorem InAt.free(h:InAt w K s)(j:Nat):w.frozen? ⟨K,j,none⟩=false:=frozen_of_row _ K j _ _ h.row
theorem InAt.same(h:InAt w K s)(e:w'.heap[K]?=w.heap[K]?):InAt w' K s:=⟨e.trans h.row,h.fits,h.room⟩
theorem InAt.below(h:InAt w K s)(hb:Below w.heap.size w w'):InAt w' K s:=h.same (hb.block K h.lt)
theorem InAt.alloc(h:InAt w K s)(o:Obj):InAt (w.alloc o) K s:=h.below ((Below.refl _ _).alloc NL _)
theorem InAt.but{C:Nat}(h:InAt w K s)(hb:But C w.heap.size w w')(j:K≠C):InAt w' K s:=h.same (hb.block K h.lt j)
theorem InAt.drewN(h:InAt w K s)(n:Nat):InAt (w.drewN n) K s:=h.same rfl
theorem InAt.set(h:InAt w K s){g:Nat}(q:K≠g)(j:Nat)(v:Value):InAt (w.setCell ⟨g,j,none⟩ v) K s:=h.same (Zfv q v)
theorem InAt.next(h:InAt w K s)(n:Nat)(hn:n<=s.t.length):InAt (w.setCell ⟨K,1,none⟩ (.int .i64 n)) K {s with n:=n}:=
 ⟨by rw[heap_setCell_same w K 1 _ _ _ h.row];rfl,hn,h.room⟩
theorem InAt.wrong(h:InAt w K s)(e a:Nat):InAt ((w.setCell ⟨K,3,none⟩ (.int .i64 e)).setCell ⟨K,4,none⟩ (.int .i64 a)) K {s with e:=e,a:=a}:=by
 have j:=heap_setCell_same w K 3 _ _ (.int .i64 e) h.row;exact⟨by rw[heap_setCell_same _ K 4 _ _ _ j];rfl,h.fits,h.room⟩
end
def Zd1(s:InS)(k:Nat)(hb:s.base<=1000000000)(j:k<=1000000000):s.place k=s.base+k:=by
 unfold InS.place Zhy;rw[if_neg (by omega)]
def Zh(K:Nat)(w:World)(v:Value)(s:InS)(e:Ending)(w':World):Prop:=e=.returned v/\InAt w' K s/\But K w.heap.size w w'
def Zcs(K:Nat)(s:InS)(w:World)(h:InAt w K s):
 Calls prog 57 #[.pointer (some ⟨K,0,none⟩)] w λe w'=>e=.returned (.int .i64 s.at_)/\w=w':=by
 have j:=Zd1 s s.n h.base (by have:=h.fits;have:=h.len;omega);obtain⟨J,I,c2,D,C⟩:=h.get;have y:=h.fits;have u:=h.len;have q:=h.base;clear h;obtain⟨t,n,b,e,a⟩:=s;simp only at J I c2 D C y u q;have L:=QQ j;clear j;go_enter func57,ntmps57
 go_wp2_with go_in
 go_ret
 exact⟨ZaH (by rw[InS.at_,L.out];simp),rfl⟩
def u8V(c:UInt8):Value:=.int .u8 c.toNat
def Zxi(l:List UInt8):l.map u8V=(l.map λc:UInt8=>(c.toNat:Int)).map (Value.int .u8):=by
 rw[List.map_map];rfl
def Zpg(l:List UInt8):strOfNums (l.map λc:UInt8=>(c.toNat:Int))=B l:=by
 unfold strOfNums B;congr 1
 rw[List.map_map];congr 1
 conv=>rhs;rw[<-List.map_id l]
 exact List.map_congr_left λc _=>by simp
def ZeK:(prog.info? 5).map (λi=>(i.zero,i.size,i.bytes))=some (some (.int .u8 0),1,1):=by kernel_rfl
def ZfZ(w:World){base:Nat}{v:Value}{n:Nat}{l:List UInt8}(h:w.ownsRow base 5 1 v n (l.map u8V)):
 (convert 110 9 v).run prog w=.ok (.string (B l)) w:=by
 rw[Zxi] at h;have:=Zep (P:=prog) 110 9 5 underlying110 underlying5 underlying9 w h;rw[Zpg] at this;exact this
def Zxk(w:World)(q:Value)(T:TypeId):∀j u,[q][j]?=some u->(w.alloc (.cells #[q] T)).cell? ((⟨w.heap.size,0,none⟩:Addr).add j)=some u:=by
 intro j u C;have y:(⟨w.heap.size,0,none⟩:Addr).add j=⟨w.heap.size,j,none⟩:=by unfold Addr.add;split<;>simp_all
 rw[y,cell_of_row _ w.heap.size j _ T (0,0) (heap_alloc_new w _)];simpa using C
section
variable {ops:Array Oper} {rest:List Oper} {o:Oper} {a:Act} {Q:Exit->Act->World->Prop}
theorem Zel(N:o.guard=none)(s x:Operand)(ho:o.op=.call {callee:=.builtin .append,args:=#[s,x],argTypes:=#[110,110]})(base:Nat)(v:Value)(l:List UInt8)(hs:a.eval s=v)(W:World)(y:UInt8)(q:Value)(hq:q=u8V y)
 (j:W.ownsRow base 5 1 v l.length (l.map u8V)) (D:base<=W.heap.size) (X:l.length<=35184372080000) (hx:a.eval x=.slice (some ⟨W.heap.size,0,none⟩) 1 1)
 (h:∀U w',Hid (w'.ownsRow base 5 1 U (l++[y]).length ((l++[y]).map u8V))->Below base W w'->wpList prog ops Q rest (a.put o.dst U) w'):
 wpList prog ops Q (o::rest) a (W.alloc (.cells #[q] 5)):=by
 obtain⟨i0,hi,L,J,I⟩:=info_parts ZeK;subst hq;refine wpList_append_own _ N s x 110 ho base 5 i0 _ 1 1 underlying110 hi L J I rfl (by decide) v l.length _ hs (j.alloc _) ⟨W.heap.size,0,none⟩ 1 1 [u8V y] hx rfl (Zxk W _ _) ?_ (by unfold maxLen;omega) (by omega) (by simp;omega) ?_
 ·intro u V;simp only[List.mem_singleton] at V;subst V;rfl
 ·intro Z Y C O _;refine h Z Y (QQ ?_) (Zad ((Below.refl _ W).alloc D _) (j.alloc _) O (by simp;omega) NL);rw[List.length_append,List.map_append];exact C
end
def InAt.wrongZ{w:World}{K:Nat}{s:InS}(h:InAt w K s)(e a:Int)(he:0<=e)(j:0<=a):InAt ((w.setCell ⟨K,3,none⟩ (.int .i64 e)).setCell ⟨K,4,none⟩ (.int .i64 a)) K {s with e:=e.toNat,a:=a.toNat}:=by
 have:=h.wrong e.toNat a.toNat
 rwa [Int.toNat_of_nonneg he,Int.toNat_of_nonneg j] at this
def InAt.nextZ{w:World}{K:Nat}{s:InS}(h:InAt w K s)(n:Nat)(z:Int)(j:z=n)(hn:n<=s.t.length):InAt (w.setCell ⟨K,1,none⟩ (.int .i64 z)) K {s with n:=n}:=by
 subst j;exact h.next n hn
def ZG(e a:Int)(h:e=0)(w:World):
 Calls prog 8 #[.agg #[.int .i64 e,.int .i64 a]] w λe w'=>e=.returned (.bool false)/\Below w.heap.size w w':=by
 subst h;go_enter func8,ntmps8
 go_wp2_with fail
 go_ret
 exact⟨rfl,(Below.refl _ w).alloc NL _⟩
def ZV(e a:Int)(h:e≠0)(w:World):
 Calls prog 8 #[.agg #[.int .i64 e,.int .i64 a]] w λe w'=>e=.returned (.bool true)/\Below w.heap.size w w':=by
 have q:(e==0)=false:=by simpa using h
 have j:(e !=0)=true:=by simpa using h
 go_enter func8,ntmps8
 go_wp2_with fail
 go_ret
 exact⟨rfl,(Below.refl _ w).alloc NL _⟩
def ZdL(K:Nat)(s:InS)(w:World)(h:InAt w K s)(he:s.e=0):
 Calls prog 53 #[.pointer (some ⟨K,0,none⟩)] w λe w'=>e=.returned (.bool true)/\Below w.heap.size w w':=by
 obtain⟨y,u,c2,q,D⟩:=h.get;rw[he] at q;have hb:=λw=>ZG ((0:Nat):Int) s.a rfl w;clear h he y u c2;go_enter func53,ntmps53
 go_wp2_with (go_at_call 8;refine MR (hb _) λC j=>?_)
 go_ret
 exact⟨rfl,j⟩
def ZdK(K:Nat)(s:InS)(w:World)(h:InAt w K s)(he:s.e≠0):
 Calls prog 53 #[.pointer (some ⟨K,0,none⟩)] w λe w'=>e=.returned (.bool false)/\Below w.heap.size w w':=by
 obtain⟨u,q,c2,D,C⟩:=h.get;have hb:=λw=>ZV (s.e:Int) s.a (by omega) w;clear h he u q c2;go_enter func53,ntmps53
 go_wp2_with (go_at_call 8;refine MR (hb _) λy j=>?_)
 go_ret
 exact⟨rfl,j⟩
def Zip(K:Nat)(s:InS)(z:Int)(h0:0<=z)(C:z<=1000000000)(w:World)(h:InAt w K s):
 Calls prog 55 #[.pointer (some ⟨K,0,none⟩),.int .i64 z] w λe w'=>e=.returned (.int .i64 (s.base+z))/\w=w':=by
 obtain⟨y,u,c2,q,j⟩:=h.get;have hb:=h.base;clear h y u q j;go_enter func55,ntmps55
 go_wp2_with fail
 go_ret
 exact⟨rfl,rfl⟩
def Za2(K:Nat)(s:InS)(e z:Int)(he:0<e)(D:0<=z)(w:World)(h:InAt w K s):
 Calls prog 51 #[.pointer (some ⟨K,0,none⟩),.int .i64 e,.int .i64 z] w (Zh K w (.tuple #[]) (s.fail e.toNat z.toNat)):=by
 generalize y:Zh K w (.tuple #[]) (s.fail e.toNat z.toNat)=P at*;have H:=QQ h;by_cases h0:s.e=0
 ·have q:=λw h=>ZdL K s w h h0;have hs:s.fail e.toNat z.toNat={s with e:=e.toNat,a:=z.toNat}:=by
   unfold InS.fail;rw[if_pos ⟨h0,by omega⟩]
  have O:(e==0)=false:=by rw[beq_eq_false_iff_ne];omega
  have N:(e !=0)=true:=by simp;omega
  have u:=QQ hs;obtain⟨Z,Y,c2,X,W⟩:=h.get;have V:=h.free 3;have U:=h.free 4;have I:=h.lt;clear hs h h0;go_enter func51,ntmps51
  go_wp2_with (go_at_call 53;refine MR (q _ H) λC j=>?_;obtain⟨L,J⟩:=Zcu j)
  go_end0
  rw[<-y,u.out];exact⟨rfl,(H.below j).wrongZ _ _ (by omega) D,((But.of j).setCell (p:=⟨K,3,none⟩) (.inr rfl) _).setCell (p:=⟨K,4,none⟩) (.inr rfl) _⟩
 ·have q:=λw h=>ZdK K s w h h0;have hs:s.fail e.toNat z.toNat=s:=by unfold InS.fail;rw[if_neg (λh=>h0 h.1)]
  have u:=QQ hs;clear hs h h0;go_enter func51,ntmps51
  go_wp2_with (go_at_call 53;refine MR (q _ H) λC j=>?_)
  go_end0
  rw[<-y,u.out];exact⟨rfl,H.below j,.of j⟩
def ZfO(K:Nat)(s:InS)(w:World)(h:InAt w K s):
 Calls prog 54 #[.pointer (some ⟨K,0,none⟩)] w (Zh K w (.tuple #[]) s.short):=by
 have j:=λw h=>Za2 K s 1 (s.base+(s.t.length:Int)) (by decide) (by omega) w h;have hs:s.fail (1:Int).toNat ((s.base:Int)+(s.t.length:Int)).toNat=s.short:=by
  rw[InS.short,Zd1 s _ h.base h.len];congr 1
 rw[hs] at j;unfold Zh at j;generalize D:Zh K w (.tuple #[]) s.short=P at*;obtain⟨U,N,c2,L,J⟩:=h.get;have O:=h.len;have C:=λw h=>Zip K s s.t.length (by omega) (by omega) w h;have y:=Zj s.t;have H:=QQ h;clear h hs N c2 L J;go_enter func54,ntmps54
 go_wp2_with (first|(go_at_call 55;refine(C _ H).mono ?_;rintro e u ⟨rfl,rfl⟩)|(go_at_call 51;refine(j _ H).mono ?_;rintro e u ⟨rfl,I,q⟩))
 go_end0
 rw[<-D];exact⟨rfl,I,q⟩
def Zc0(K:Nat)(s:InS)(w:World)(h:InAt w K s):
 Calls prog 21 #[.pointer (some ⟨K,0,none⟩)] w λe w'=>e=.returned (.agg #[.int .i64 s.e,.int .i64 s.a])/\Below w.heap.size w w':=by
 obtain⟨u,q,c2,C,y⟩:=h.get;have j:=h.lt;clear h u q c2;go_enter func21,ntmps21
 go_wp2_with fail
 refine bodyPost_ret (v:=.agg #[.int .i64 s.e,.int .i64 s.a]) (by simp[results,results21,go_sem]) rfl ?_;exact⟨rfl,(Below.refl _ w).alloc NL _⟩
def Zig(K:Nat)(s:InS)(w:World)(h:InAt w K s):
 Calls prog 59 #[.pointer (some ⟨K,0,none⟩)] w λe w'=>e=.returned (.int .i64 s.left)/\Below w.heap.size w w':=by
 have H:=QQ h;by_cases h0:s.e=0
 ·have q:=λw h=>ZdL K s w h h0;have hs:((s.left:Nat):Int)=(s.t.length:Int) - s.n:=by
   unfold InS.left;rw[if_pos h0];have:=h.fits;omega
  have u:=QQ hs;obtain⟨W,V,c2,N,L⟩:=h.get;have D:=h.lt;have J:=h.fits;have I:=h.len;have C:=Zj s.t;clear hs h h0 c2 N L;go_enter func59,ntmps59
  go_wp2_with (go_at_call 53;refine MR (q _ H) λy j=>?_;obtain⟨U,O⟩:=Zcu j)
  go_quiet (fail)
  go_wp2_with fail
  go_ret
  exact⟨ZaH u.symm,below_drewN j _⟩
 ·have q:=λw h=>ZdK K s w h h0;have hs:s.left=0:=by unfold InS.left;rw[if_neg h0]
  have u:=QQ hs;clear hs h h0;go_enter func59,ntmps59
  go_wp2_with (go_at_call 53;refine MR (q _ H) λy j=>?_)
  go_ret
  exact⟨ZaH (by rw[u.out];rfl),j⟩
def Zk0(t:List UInt8)(z:Int)(h0:0<=z)(u:z+t.length<=1000000000)(w:World):
 Calls prog 24 #[.string (B t),.int .i64 z] w λe w'=>e=.returned (.pointer (some ⟨w.heap.size,0,none⟩))/\InAt w' w.heap.size ⟨t,0,z.toNat,0,0⟩/\Below w.heap.size w w'/\w'.heap.size=w.heap.size+1:=by
 have q:(max z 0)=z:=by omega
 have j:=QQ (Int.toNat_of_nonneg h0);go_enter func24,ntmps24
 go_wp2_with fail
 go_ret
 refine⟨rfl,⟨?_,Nat.zero_le _,by simp only;omega⟩,(Below.refl _ w).alloc NL _,by simp⟩;rw[heap_alloc_new];simp only[five,j.out];rfl
def Zlh(t:List UInt8)(D:t.length<=1000000000)(w:World):
 Calls prog 17 #[.string (B t)] w λe w'=>e=.returned (.pointer (some ⟨w.heap.size,0,none⟩))/\InAt w' w.heap.size ⟨t,0,0,0,0⟩/\Below w.heap.size w w'/\w'.heap.size=w.heap.size+1:=by
 have u:=Zk0 t 0 (by decide) (by omega);go_enter func17,ntmps17
 go_wp2_with (go_at_call 24;refine(u _).mono ?_;rintro e C ⟨rfl,y,q,j⟩)
 go_ret
 exact⟨rfl,y,q,j⟩
def Zdo(K:Nat)(s:InS)(z:Int)(W:0<=z)(Y:z<=9223372036854775807)(w:World)(h:InAt w K s):
 Calls prog 19 #[.pointer (some ⟨K,0,none⟩),.int .i64 z] w (Zh K w (.string (B (s.take z.toNat).1)) (s.take z.toNat).2):=by
 obtain⟨k,rfl⟩:∃k:Nat,z=k:=⟨z.toNat,by omega⟩
 rw[Int.toNat_natCast];generalize N:Zh K w (.string (B (s.take k).1)) (s.take k).2=P at*;have H:=QQ h;by_cases h0:s.e=0
 ·have y:=λw h=>ZdL K s w h h0;by_cases X:s.t.length - s.n<k
  ·have hs:s.take k=([],s.short):=by unfold InS.take;rw[if_neg (by omega),if_pos X]
   have u:=QQ hs;have q:=λw h=>ZfO K s w h;unfold Zh at q;obtain⟨c0,c1,c2,U,O⟩:=h.get;have D:=h.lt;have J:=h.fits;have I:=h.len;have C:=Zj s.t;have hd:decide ((k:Int)<0)=false:=by simp
   clear hs h h0 c2 U O W;go_enter func19,ntmps19
   go_wp2_with (go_at_call 53;refine MR (y _ H) λV j=>?_;obtain⟨hc,Z⟩:=Zcu j)
   go_quiet (fail)
   go_wp2_with (go_at_call 54;refine(q _ ((H.below j).drewN _)).mono ?_;rintro e w2 ⟨rfl,h2,L⟩)
   show P (.returned (.string ⟨#[]⟩)) _
   rw[<-N,u.out];exact⟨rfl,h2,(But.of (below_drewN j _)).trans (L.mono j.size)⟩
  ·have hs:s.take k=((s.t.drop s.n).take k,{s with n:=s.n+k}):=by unfold InS.take;rw[if_neg (by omega),if_neg X]
   have u:=QQ hs;obtain⟨c0,c1,c2,U,O⟩:=h.get;have f1:=h.free 1;have D:=h.lt;have J:=h.fits;have I:=h.len;have C:=Zj s.t;have hd:decide ((k:Int)<0)=false:=by simp
   have aa:decide ((k:Int)>(s.t.length:Int) - s.n)=false:=by rw[decide_eq_false_iff_not];omega
   have he:(B s.t).extract s.n (s.n+k)=B ((s.t.drop s.n).take k):=by rw[Zby];congr 2;omega
   have He:=QQ he;clear hs h h0 c2 U O W he;go_enter func19,ntmps19
   go_wp2_with (go_at_call 53;refine MR (y _ H) λV j=>?_;obtain⟨hc,Z⟩:=Zcu j)
   go_quiet (fail)
   go_wp2_with fail
   go_quiet (fail)
   go_wp2_with fail
   show P (.returned (.string ((B s.t).extract s.n (s.n+k)))) _
   rw[He.out,<-N,u.out];exact⟨rfl,((H.below j).drewN _).nextZ (s.n+k) ((s.n:Int)+k) (by omega) (by omega),((But.of (below_drewN j _))).setCell (p:=⟨K,1,none⟩) (.inr rfl) _⟩
 ·have y:=λw h=>ZdK K s w h h0;have hs:s.take k=([],s):=by unfold InS.take;rw[if_pos h0]
  have u:=QQ hs;clear hs h h0;go_enter func19,ntmps19
  go_wp2_with (go_at_call 53;refine MR (y _ H) λV j=>?_)
  show P (.returned (.string ⟨#[]⟩)) _
  rw[<-N,u.out];exact⟨rfl,H.below j,.of j⟩
def ZeU(K:Nat)(s:InS)(w:World)(h:InAt w K s):
 Calls prog 29 #[.pointer (some ⟨K,0,none⟩)] w (Zh K w (.string (B s.rest.1)) s.rest.2):=by
 have u:s.left<=1000000000:=by have:=h.len;unfold InS.left;split<;>omega
 have D:=λw h=>Zig K s w h;have q:=λw h=>Zdo K s s.left (by omega) (by omega) w h;rw[Int.toNat_natCast] at q;unfold Zh at q;have hs:s.rest=s.take s.left:=rfl;rw[hs];generalize I:Zh K w (.string (B (s.take s.left).1)) (s.take s.left).2=P at*;have H:=QQ h;clear hs h u;go_enter func29,ntmps29
 go_wp2_with (first|(go_at_call 59;refine MR (D _ H) λO j=>?_;have C:=H.below j;have L:=QQ C;clear C)|(go_at_call 19;refine(q _ L).mono ?_;rintro e N ⟨rfl,J,y⟩))
 show P (.returned (.string (B (s.take s.left).1))) _
 rw[<-I];exact⟨rfl,J,(But.of j).trans (y.mono j.size)⟩
def Zld(K:Nat)(s:InS)(k:Nat)(w:World)(h:InAt w K s)(X:k<=1000000000):
 Calls prog 102 #[.pointer (some ⟨K,0,none⟩),.int .i64 k] w λe w'=>e=.returned (.string (B (s.peek k)))/\Below w.heap.size w w':=by
 have H:=QQ h;by_cases h0:s.e=0
 ·have u:=λw h=>ZdL K s w h h0;obtain⟨Z,Y,c2,D,C⟩:=h.get;have J:=h.lt;have O:=h.fits;have L:=h.len;have I:=Zj s.t;by_cases N:(k:Int)<=(s.t.length:Int) - s.n
  ·have he:(B s.t).extract s.n (s.n+k)=B (s.peek k):=by
    rw[Zby];congr 1;unfold InS.peek;rw[if_neg (by omega),show s.n+k - s.n=k by omega]
   have q:=QQ he;clear h h0 c2 D C he;go_enter func102,ntmps102
   go_wp2_with (go_at_call 53;refine MR (u _ H) λy j=>?_;obtain⟨V,U⟩:=Zcu j)
   go_quiet (fail)
   go_wp2_with fail
   go_quiet (fail)
   go_wp2_with fail
   go_ret
   refine⟨?_,below_drewN (below_drewN j _) _⟩
   first|exact congrArg (λx=>Ending.returned (.string x)) q.out|(show Ending.returned (.string ((B s.t).extract s.n ((s.n:Int)+min (k:Int) ((s.t.length:Int) - s.n)).toNat))=_;rw[<-q.out];congr 3;omega)
  ·have he:(B s.t).extract s.n (s.n+(s.t.length - s.n))=B (s.peek k):=by
    rw[Zby];congr 1;unfold InS.peek;rw[if_neg (by omega),show s.n+(s.t.length - s.n) - s.n=s.t.length - s.n by omega];rw[List.take_of_length_le (by simp),List.take_of_length_le (by simp;omega)]
   have q:=QQ he;clear h h0 c2 D C he;go_enter func102,ntmps102
   go_wp2_with (go_at_call 53;refine MR (u _ H) λy j=>?_;obtain⟨V,U⟩:=Zcu j)
   go_quiet (fail)
   go_wp2_with fail
   go_quiet (fail)
   go_wp2_with fail
   go_ret
   refine⟨?_,below_drewN (below_drewN j _) _⟩
   first|exact congrArg (λx=>Ending.returned (.string x)) q.out|(show Ending.returned (.string ((B s.t).extract s.n ((s.n:Int)+min (k:Int) ((s.t.length:Int) - s.n)).toNat))=_;rw[<-q.out];congr 3;omega)
 ·have u:=λw h=>ZdK K s w h h0;have hs:s.peek k=[]:=by unfold InS.peek;rw[if_pos h0]
  have W:=QQ hs;clear hs h h0;go_enter func102,ntmps102
  go_wp2_with (go_at_call 53;refine MR (u _ H) λy j=>?_)
  go_ret
  exact⟨by rw[W.out];rfl,j⟩
def ZlI(k:Nat)(j:k<=8)(w:World):Calls prog 66 #[.int .i64 k] w λe w'=>e=.returned (.int .i64 k)/\w=w':=by
 obtain rfl|rfl|rfl|rfl|rfl|rfl|rfl|rfl|rfl:k=0\/k=1\/k=2\/k=3\/k=4\/k=5\/k=6\/k=7\/k=8:=by omega
 all_goals
  go_enter func66,ntmps66
  go_wp2_with fail
  go_ret
  exact⟨rfl,rfl⟩
namespace InS
def bigN_lt:∀(l:List UInt8),l.length<=8->bigN l<256^l.length/\∀(m:List UInt8) (x:UInt8),l=m++[x]->bigN l=bigN m*256+x.toNat:=by
 intro l;induction h:l.length generalizing l with
 |zero=>intro _;have:=List.eq_nil_of_length_eq_zero h;subst this;exact⟨by decide,λm x e=>by simp at e⟩
 |succ n u=>
  intro N;have j:l≠[]:=by rintro rfl;simp at h
  obtain⟨m,x,rfl⟩:∃m x,l=m++[x]:=⟨_,_,(List.dropLast_concat_getLast j).symm⟩
  have y:m.length=n:=by simpa using h
  obtain⟨O,_⟩:=u m y (by omega);have J:=x.toNat_lt;have L:256^n<=256^7:=Nat.pow_le_pow_right (by decide) (by omega);have e:bigN (m++[x])=bigN m*256+x.toNat:=by
   have:bigN (m++[x])=(bigN m*256+x.toNat) % 18446744073709551616:=by
    unfold bigN;rw[List.foldl_append];rfl
   rw[this,Nat.mod_eq_of_lt];have:(256:Nat)^7*256=18446744073709551616:=by decide
   omega
  refine⟨by rw[e,Nat.pow_succ];omega,λI D C=>?_⟩;have:=List.append_inj' C rfl;obtain⟨rfl,q⟩:=this;simp only[List.cons.injEq,and_true] at q;subst q;exact e
def bigN_snoc(l:List UInt8)(i:Nat)(j:i<l.length)(q:l.length<=8):bigN (l.take (i+1))=bigN (l.take i)*256+l[i].toNat:=by
 have hs:l.take (i+1)=l.take i++[l[i]]:=by rw[List.take_succ_eq_append_getElem j]
 exact(bigN_lt (l.take (i+1)) (by rw[List.length_take];omega)).2 _ _ hs
def bigN_bd(l:List UInt8)(i:Nat)(q:i<l.length)(j:l.length<=8):bigN (l.take i)<72057594037927936:=by
 have u:=(bigN_lt (l.take i) (by rw[List.length_take];omega)).1;have:(256:Nat)^(l.take i).length<=256^7:=Nat.pow_le_pow_right (by decide) (by rw[List.length_take];omega);have e:(256:Nat)^7=72057594037927936:=by decide
 omega
end InS
def u64_or8{x y:Int}(j:0<=y)(q:y<256)(u:0<=x)(C:x<72057594037927936):bits .or .u64 (x*256) y=x*256+y:=
 bits_join .u64 64 (by decide) (λn h0 D=>by simp[IntKind.wrap,IntKind.bits,IntKind.signed];omega) 8 (x*256) y (by omega) (by omega) (by omega) j q (by omega)
def Zd8(s:InS)(k:Nat):(s.take k).1.length<=k:=by
 unfold InS.take;split
 ·simp
 ·split
  ·simp
  ·simp;omega
def BgRel(l:List UInt8)(n i:Value):Prop:=∃k:Nat,k<=l.length/\i=.int .i64 k/\n=.int .u64 (InS.bigN (l.take k):Int)
def Zdm(K:Nat)(s:InS)(k:Nat)(O:k<=8)(w:World)(h:InAt w K s):
 Calls prog 49 #[.pointer (some ⟨K,0,none⟩),.int .i64 k] w (Zh K w (.int .u64 ((s.big k).1:Nat)) (s.big k).2):=by
 have hs:s.big k=(InS.bigN (s.take k).1,(s.take k).2):=by unfold InS.big;rw[Nat.min_eq_left O]
 rw[hs];have u:=λw h=>Zdo K s k (by omega) (by omega) w h;rw[Int.toNat_natCast] at u;unfold Zh at u;have hl:=Zd8 s k;clear hs;generalize (s.take k).2=J at*;generalize D:(s.take k).1=L at*;generalize Y:Zh K w (.int .u64 ((InS.bigN L,J).1:Nat)) (InS.bigN L,J).2=P at*;have H:=QQ h;have U:=λw=>ZlI k O w;have V:=Zj L;clear h D;go_enter func49,ntmps49
 go_wp2_with (first|(go_at_call 66;refine(U _).mono ?_;rintro e w1 ⟨rfl,rfl⟩)|(go_at_call 19;refine(u _ H).mono ?_;rintro e w2 ⟨rfl,Z,C⟩))
 go_loop [6,7] (λn i=>BgRel L n i) (λ_ i=>L.length - (intOf i).toNat)
 case atStart=>exact⟨0,Nat.zero_le _,rfl,rfl⟩
 case round=>
  obtain⟨i,hi,rfl,rfl⟩:=hrel;by_cases q:i<L.length
  ·have hg:(B L)[i]'(by omega)=L[i]:=by simp[B];rfl
   have j:=InS.bigN_snoc L i q (by omega);have X:=InS.bigN_bd L i q (by omega);have hx:=L[i].toNat_lt;have W:=u64_or8 (x:=(InS.bigN (L.take i):Int)) (y:=(L[i].toNat:Int)) (by omega) (by omega) (by omega) (by omega);have I:=QQ j;clear j;generalize InS.bigN (L.take i)=N at*;go_wp2_with fail
   go_round
   case rel=>exact⟨i+1,by omega,by go_num,by rw[I.out];go_num⟩
   case measure=>simp[intOf];omega
  ·have:L.take i=L:=List.take_of_length_le (by omega);go_wp2_with fail
   show P (.returned (.int .u64 (InS.bigN L:Int))) _
   rw[<-Y];exact⟨rfl,Z,C⟩
open Go
structure Fr where
 id:List UInt8
 st:UInt8
 fm:UInt8
 grp:UInt8
 body:List UInt8
 at_:Int
def Zs(v:Nat):Nat:=if v=2 then 3 else if v=3\/v=4 then 4 else 0
def ZQ(v:Nat)(m:UInt8):Bool:=(v==3&&m&&&0xC0 !=0)||(v==4&&m&&&0x0C !=0)
def ZaC(v:Nat)(m:UInt8):Bool:= !ZQ v m&&((v==3&&m&&&0x20 !=0)||(v==4&&m&&&0x40 !=0))
def ZaY(v:Nat)(m:UInt8):Bool:=v==4&& !ZQ v m&&m&&&1 !=0
def Zbv(v:Nat)(m:UInt8):Bool:=v==4&& !ZQ v m&&m&&&2 !=0
def Zax:List UInt8->Nat
 |[]=>0
 |x::r=>if Zem x then Zax r+1 else 0
def ZD(v:Nat)(f:Fr):List UInt8:=
 (if ZaC v f.fm then [f.grp] else [])++((if ZaY v f.fm then Zaq f.body.length else [])++
  (if Zbv v f.fm then Zag f.body else f.body))
def ZbM(v n:Nat):List UInt8:=if v=2 then Zas n 3 else if v=3 then Zas n 4 else Zaq n
def ZdR(v:Nat)(f:Fr):List UInt8:=if v=2 then [] else [f.st,f.fm]
def ZM(v:Nat)(f:Fr):List UInt8:=f.id++(ZbM v (ZD v f).length++(ZdR v f++ZD v f))
def Zbn(v:Nat)(f:Fr)(data:List UInt8)(k:Nat):Except (Nat×Nat) Fr:=
 if ZQ v f.fm then .ok {f with body:=data} else
 let s:InS:=⟨data,0,k,0,0⟩
 let p:=if ZaC v f.fm then s.big 1 else(f.grp.toNat,s)
 let q:=if ZaY v f.fm then p.2.safe else(0,p.2)
 if q.2.e≠0 then .error (q.2.e,q.2.a) else
 let d:=q.2.rest.1
 let d:=if Zbv v f.fm then Zae false d else d
 if ZaY v f.fm=true/\q.1≠d.length then .error (1,p.2.at_) else .ok {f with grp:=UInt8.ofNat p.1,body:=d}
def Zbh(v:Nat)(s:InS):Nat×InS:=if v=2 then s.big 3 else if v=3 then s.big 4 else s.safe
def Zbg(v:Nat)(s:InS)(j:Bool):Option Fr×InS:=
 if Zs v=0\/s.e≠0\/s.left=0\/s.peek 1=[0] then(none,s) else
 let i:=s.take (Zs v)
 let q:=if Zax i.1<i.1.length then i.2.fail 1 (s.at_+Zax i.1) else i.2
 let m:=Zbh v q
 let g:=if 2<v then m.2.big 2 else(0,m.2)
 let fm:=UInt8.ofNat g.1|||(if v=4/\j=true then 2 else 0)
 let f:Fr:=⟨i.1,UInt8.ofNat (g.1 / 256),fm,0,[],s.at_⟩
 let d:=g.2.take m.1
 if d.2.e≠0 then(none,d.2) else
 match Zbn v f d.1 g.2.at_ with
 | .error x=>(none,d.2.fail x.1 x.2)
 | .ok f=>(some f,d.2)
def ZtV{v:Nat}{f j:Fr}{d:List UInt8}{k:Nat}(h:Zbn v f d k=.ok j):j.at_=f.at_:=by
 unfold Zbn at h;simp only at h
 repeat' split at h
 all_goals first
  |(injection h with h;rw[<-h];done)
  |(simp at h;done)
def ZvE{v:Nat}{s:InS}{j:Bool}{f:Fr}{s':InS}(h:Zbg v s j=(some f,s')):0<=f.at_:=by
 unfold Zbg at h;simp only at h
 repeat' split at h
 all_goals first
  |(simp at h;done)
  |(rename_i q;have:=ZtV q;simp only[Prod.mk.injEq,Option.some.injEq] at h;rw[<-h.1,this];exact Int.natCast_nonneg _)
def ZsO(v:Nat)(f:Fr):f.body.length<=(ZD v f).length:=by
 have:=ZeB f.body;simp only[ZD,List.length_append];split<;>split<;>split<;>simp<;>omega
structure Tg where
 v:Nat
 rev:UInt8
 fl:UInt8
 fs:List Fr
def ZJ(fl:UInt8):Bool:=fl&&&0x80 !=0
def ZbZ(v:Nat)(fl:UInt8):Bool:=v==4&&fl&&&0x10 !=0
def ZcV(v:Nat)(fl:UInt8):Bool:=v !=4&&ZJ fl
def Zca(v:Nat):UInt8:=if v=2 then 0xC0 else if v=3 then 0xE0 else if v=4 then 0xF0 else 0
def Zg6(v:Nat):UInt8:=if v=2 then 0x80 else if v=3 then 0xA0 else if v=4 then 0xB0 else 0
def allT(t:Tg):List UInt8:=(t.fs.map (ZM t.v)).flatten
def ZaS(t:Tg):List UInt8:=if ZcV t.v t.fl then Zag (allT t) else allT t
def ZjX(t:Tg):List UInt8:=[UInt8.ofNat t.v,t.rev,t.fl]++Zaq (ZaS t).length
def Zu:List UInt8:=[73,68,51]
def ZaB:List UInt8:=[51,68,73]
def Zd3(t:Tg):List UInt8:=Zu++(ZjX t++(ZaS t++(if ZbZ t.v t.fl then ZaB++ZjX t else [])))
def ZW(s:InS):(Nat×UInt8×UInt8)×InS:=
 let a:=(s.want Zu).2.big 1
 let b:=a.2.big 1
 let c:=b.2.big 1
 let v:=a.1
 let rev:=UInt8.ofNat b.1
 let fl:=UInt8.ofNat c.1
 if c.2.e≠0 then((0,0,0),c.2) else
 let s:=if Zs v=0 then c.2.fail 3 3 else c.2
 let s:=if rev=255 then s.fail 1 4 else s
 let s:=if fl&&& ~~~(Zca v)≠0 then s.fail 1 5 else s
 let s:=if v=2/\fl&&&0x40≠0 then s.fail 3 5 else s
 ((v,rev,fl),s)
def Zbu(v:Nat)(fl:UInt8)(s:InS):InS:=
 if fl&&&0x40=0 then s else
 if v=3 then let n:=s.big 4;(n.2.take n.1).2 else
 let n:=s.safe
 let j:=if n.1<6 then n.2.fail 1 s.at_ else n.2
 if n.1<4 then(if j.e≠0 then j else j.short) else(j.take (n.1 - 4)).2
def Z7(v:Nat)(j:Bool):Nat->InS->List Fr×InS
 |0,s=>match Zbg v s j with
  |(none,s')=>([],s')
  |(some f,s')=>([],s'.fail 4 f.at_.toNat)
 |k+1,s=>match Zbg v s j with
  |(none,s')=>([],s')
  |(some f,s')=>let p:=Z7 v j k s';(f::p.1,p.2)
def Zcn:List UInt8->Option Nat
 |[]=>none
 |x::r=>if x=0 then(Zcn r).map (· +1) else some 0
def Zcx(v:Nat)(j:Bool)(s:InS):List Fr×InS:=
 let p:=Z7 v j 4096 s
 let q:=p.2.rest
 match Zcn q.1 with
 |none=>(p.1,q.2)
 |some i=>(p.1,q.2.fail 1 (p.2.at_+i))
def ZS(j:List UInt8):Except (Nat×Nat) (Option Tg×List UInt8):=
 if j.take 3≠Zu then .ok (none,j) else
 let h:=ZW ⟨j,0,0,0,0⟩
 let v:=h.1.1
 let rev:=h.1.2.1
 let fl:=h.1.2.2
 let n:=h.2.safe
 let b:=n.2.take n.1
 if b.2.e≠0 then .error (b.2.e,b.2.a) else
 let body:=if ZcV v fl then Zae false b.1 else b.1
 let l:=Zcx v (ZJ fl) (Zbu v fl ⟨body,0,10,0,0⟩)
 if l.2.e≠0 then .error (l.2.e,l.2.a) else
 let r:=if ZbZ v fl then(((b.2.want ZaB).2).want ((j.take 10).drop 3)).2 else b.2
 if r.e≠0 then .error (r.e,r.a) else
 .ok (some ⟨v,rev,fl&&& ~~~0x40,l.1⟩,r.rest.1)
open Go Go.RowKit
def Zj8(m:Nat):(m=0/\Value.int .i64 ((m:Int) - 1)=.int .i64 (-1))\/∃j:Nat,m=j+1/\Value.int .i64 ((m:Int) - 1)=.int .i64 j:=by
 by_cases h:m=0
 ·subst h;exact .inl ⟨rfl,rfl⟩
 ·exact .inr ⟨m - 1,by omega,by congr 1;omega⟩
namespace InS
def safeN_snoc(l:List UInt8)(i:Nat)(j:i<l.length):ZbL (l.take (i+1))=ZbL (l.take i)*128+l[i].toNat:=by
 rw[List.take_succ_eq_append_getElem j];unfold ZbL;rw[List.foldl_append];rfl
def safeN_lt(l:List UInt8):∀i,i<=l.length->(∀j (h:j<l.length),j<i->l[j].toNat<128)->ZbL (l.take i)<128^i
 |0,_,_=>by simp[ZbL]
 |i+1,y,h=>by
  have D:=safeN_lt l i (by omega) (λj u q=>h j u (by omega));have C:=h i (by omega) (by omega);rw[safeN_snoc l i (by omega),Nat.pow_succ];omega
def high_skip(l:List UInt8):∀i,i<=l.length->(∀j (h:j<l.length),j<i->l[j].toNat<128)->high l=(high (l.drop i)).map (· +i)
 |0,_,_=>by simp
 |i+1,y,h=>by
  rw[high_skip l i (by omega) (λj u q=>h j u (by omega)),List.drop_eq_getElem_cons (show i<l.length by omega),high];rw[if_neg (by have:=h i (by omega) (by omega);omega),Option.map_map];congr 1
  funext x;simp;omega
def high_at(l:List UInt8)(i:Nat)(u:i<l.length)(h:∀j (h:j<l.length),j<i->l[j].toNat<128)(q:128<=l[i].toNat):high l=some i:=by
 rw[high_skip l i (by omega) h,List.drop_eq_getElem_cons u,high,if_pos q];simp
def high_no(l:List UInt8)(h:∀j (h:j<l.length),j<l.length->l[j].toNat<128):high l=none:=by
 rw[high_skip l l.length NL h];simp[high]
def take_n(s:InS)(k:Nat):(s.take k).1.length<=(s.take k).2.n/\(s.take k).2.t=s.t/\(s.take k).2.base=s.base:=by
 unfold take;split
 ·simp
 ·split
  ·simp only[short,fail];split<;>simp
  ·simp only[List.length_take,List.length_drop,and_true];omega
end InS
def Zuw{x y:Int}(j:0<=y)(q:y<128)(u:0<=x)(C:x<2097152):bits .or .i64 (x*128) y=x*128+y:=
 bits_join .i64 63 (by decide) (λn h0 D=>by simp[IntKind.wrap,IntKind.bits,IntKind.signed];omega) 7 (x*128) y (by omega) (by omega) (by omega) j q (by omega)
def SfRel(l:List UInt8)(n i:Value):Prop:=∃k:Nat,k<=l.length/\i=.int .i64 k/\n=.int .i64 (ZbL (l.take k):Int)/\∀j (h:j<l.length),j<k->l[j].toNat<128
def ZgU(K:Nat)(s:InS)(w:World)(h:InAt w K s):
 Calls prog 20 #[.pointer (some ⟨K,0,none⟩)] w (Zh K w (.int .i64 (s.safe.1:Nat)) s.safe.2):=by
 have hs:s.safe=match InS.high (s.take 4).1 with
  |some i=>(0,(s.take 4).2.fail 1 ((s.take 4).2.place ((s.take 4).2.n - (s.take 4).1.length+i)))
  |none=>(ZbL (s.take 4).1,(s.take 4).2):=rfl
 rw[hs];have Z:=λw h=>Zdo K s 4 (by omega) (by omega) w h;rw[show(4:Int).toNat=4 from rfl] at Z;unfold Zh at Z;have hl:=Zd8 s 4;obtain⟨aB,ab,aa⟩:=InS.take_n s 4;clear hs ab aa;generalize (s.take 4).2=C at*;generalize ah:(s.take 4).1=L at*;obtain⟨R,hR⟩:∃R:Nat×InS,R=match InS.high L with
  |some i=>(0,C.fail 1 (C.place (C.n - L.length+i)))
  |none=>(ZbL L,C):=⟨_,rfl⟩
 rw[<-hR];generalize hP:Zh K w (.int .i64 (R.1:Nat)) R.2=P at*;have H:=QQ h;have HR:=QQ hR;have ay:=Zj L;clear h ah hR;go_enter func20,ntmps20
 go_wp2_with (go_at_call 19;refine(Z _ H).mono ?_;rintro e w2 ⟨rfl,O,J⟩)
 have H2:=QQ O;obtain⟨c0,c1,c2,c3,c4⟩:=O.get;have I:=O.base;have ao:=O.fits;have an:=O.len;clear O c0 c2 c3 c4;go_loop [4,5] (λn i=>SfRel L n i) (λ_ i=>L.length - (intOf i).toNat)
 case atStart=>exact⟨0,Nat.zero_le _,rfl,rfl,λj _ h=>by omega⟩
 case round=>
  obtain⟨i,hi,rfl,rfl,D⟩:=hrel;have u:=QQ D;clear D;by_cases V:i<L.length
  ·have hg:(B L)[i]'(by omega)=L[i]:=by simp[B];rfl
   by_cases hx:128<=L[i].toNat
   ·have hp:=λw h=>Zip K C ((C.n:Int) - L.length+i) (by omega) (by omega) w h;have hf:=λw h=>Za2 K C 1 ((C.base:Int)+((C.n:Int) - L.length+i)) (by decide) (by omega) w h;unfold Zh at hf;have q:=HR.out;rw[InS.high_at L i V u.out hx] at q;simp only at q;have he:C.fail (1:Int).toNat ((C.base:Int)+((C.n:Int) - L.length+i)).toNat=R.2:=by
     rw[q];simp only;rw[Zd1 C _ I (by omega)];congr 1;omega
    have W:(R.1:Int)=0:=by rw[q];rfl
    rw[he] at hf;have aj:=QQ W;clear he W q;go_wp2_with (first|(go_at_call 55;refine(hp _ H2).mono ?_;rintro e w3 ⟨rfl,rfl⟩)|(go_at_call 51;refine(hf _ H2).mono ?_;rintro e w3 ⟨rfl,h3,af⟩))
    show P (.returned (.int .i64 0)) _
    rw[<-hP];exact⟨by rw[aj.out],h3,J.trans (af.mono J.size)⟩
   ·have U:=InS.safeN_snoc L i V;have ae:=InS.safeN_lt L i hi u.out;have Y:(128:Nat)^i<=128^3:=Nat.pow_le_pow_right (by decide) (by omega);have X:(128:Nat)^3=2097152:=by decide
    have ap:ZbL (L.take i)<2097152:=by omega
    clear ae Y X;have aA:=Zuw (x:=(ZbL (L.take i):Int)) (y:=(L[i].toNat:Int)) (by omega) (by omega) (by omega) (by omega);have ai:=QQ U;clear U;generalize ZbL (L.take i)=N at*;go_wp2_with fail
    go_round
    case rel=>
     refine⟨i+1,by omega,by go_num,by rw[ai.out];go_num,λj hj aC=>?_⟩;by_cases e:j=i
     ·subst e;omega
     ·exact u j hj (by omega)
    case measure=>simp[intOf];omega
  ·have ac:i=L.length:=by omega
   subst ac;have q:=HR.out;rw[InS.high_no L u.out] at q;simp only at q;have ak:=QQ q;clear q;go_wp2_with fail
   show P (.returned (.int .i64 (ZbL L:Int))) _
   rw[<-hP,ak.out];exact⟨rfl,H2,J⟩
namespace InS
def differ_skip:∀(k:Nat) (w r:List UInt8),k<=w.length->k<=r.length->(∀j,j<k->w[j]?=r[j]?)->differ w r=(differ (w.drop k) (r.drop k)).map (· +k)
 |0,_,_,_,_,_=>by simp
 |k+1,x::w,y::r,u,q,h=>by
  have h0:=h 0 (by omega);simp only[List.getElem?_cons_zero,Option.some.injEq] at h0;subst h0;have C:=differ_skip k w r (by simpa using u) (by simpa using q) (λj D=>by have:=h (j+1) (by omega);simpa using this);simp only[differ,if_pos,C,Option.map_map,List.drop_succ_cons];congr 1
 |k+1,[],_,u,_,_=>by simp at u
 |k+1,_::_,[],_,q,_=>by simp at q
def differ_nil(w:List UInt8):differ [] w=none/\differ w []=none:=by
 constructor
 ·cases w<;>rfl
 ·cases w<;>rfl
end InS
def WnRel(l r:List UInt8)(W:World)(i:Value)(wr:World):Prop:=∃k:Nat,k<=l.length/\k<=r.length/\i=.int .i64 k/\(∀j,j<k->l[j]?=r[j]?)/\∃n,wr=W.drewN n
def Ziv(K:Nat)(s:InS)(l:List UInt8)(hl:l.length<=1000000000)(w:World)(h:InAt w K s):
 Calls prog 28 #[.pointer (some ⟨K,0,none⟩),.string (B l)] w (Zh K w (.bool (s.want l).1) (s.want l).2):=by
 obtain⟨R,hR⟩:∃R,R=s.want l:=⟨_,rfl⟩
 rw[<-hR];generalize hP:Zh K w (.bool R.1) R.2=P at*;have H:=QQ h;by_cases h0:s.e=0
 ·have hr:=λw h=>ZdL K s w h h0;obtain⟨c0,c1,c2,c3,c4⟩:=h.get;have aC:=h.lt;have aG:=h.fits;have aD:=h.len;have ai:=h.base;have aA:=Zj s.t;have ax:=Zj l;have he:(B s.t).extract s.n s.t.length=B (s.t.drop s.n):=by
   rw[Zby,List.take_of_length_le (by simp)]
  have u:(s.t.drop s.n).length=s.t.length - s.n:=List.length_drop ..;have aw:=Zj (s.t.drop s.n);rw[InS.want,if_neg (by omega)] at hR;have HR:=QQ hR;have Z:=QQ u;clear h h0 c2 c3 c4 hR u;generalize s.t.drop s.n=r at*;go_enter func28,ntmps28
  go_wp2_with (go_at_call 53;refine MR (hr _ H) λw1 y=>?_;obtain⟨hc,N⟩:=Zcu y)
  go_quiet (fail)
  go_wp2_with fail
  have ad:=below_drewN y nq;have H0:=(H.below y).drewN nq;generalize w1.drewN nq=w0 at*;have L:=QQ ad;have C:=QQ H0;clear y hc N ad H0 c0 c1;go_loopw [6] (λi wr=>WnRel l r w0 i wr) (λi _=>l.length - (intOf i).toNat)
  case atStart=>exact⟨0,Nat.zero_le _,Nat.zero_le _,rfl,λj h=>by omega,0,rfl⟩
  case round=>
   obtain⟨k,X,W,rfl,ac,n,rfl⟩:=hrel;have O:=QQ ac;obtain⟨c0,c1,c2,c3,c4⟩:=C.get;have f1:=C.free 1;clear ac c0 c2 c3 c4;by_cases V:k<l.length
   ·by_cases U:k<r.length
    ·have aF:(B l)[k]'(by omega)=l[k]:=by simp[B];rfl
     have aE:(B r)[k]'(by omega)=r[k]:=by simp[B];rfl
     by_cases hx:l[k]=r[k]
     ·have D:(l[k].toNat:Int)=(r[k].toNat:Int):=by rw[hx]
      have hd:((l[k].toNat:Int) !=(r[k].toNat:Int))=false:=by rw[D];simp
      clear D;have Hx:=QQ hx;clear hx;go_wp2_with fail
      go_quiet (fail)
      go_wp2_with fail
      go_roundw
      case rel=>
       refine⟨k+1,by omega,by omega,by go_num,λj hj=>?_,_,rfl⟩;by_cases e:j=k
       ·subst e;rw[List.getElem?_eq_getElem V,List.getElem?_eq_getElem U,Hx.out]
       ·exact O j (by omega)
      case measure=>simp[intOf];omega
     ·have D:(l[k].toNat:Int)≠(r[k].toNat:Int):=λe=>hx (UInt8.toNat_inj.1 (by omega));have hd:((l[k].toNat:Int) !=(r[k].toNat:Int))=true:=by simpa using D
      have q:=HR.out;rw[InS.differ_skip k l r X W O.out,List.drop_eq_getElem_cons V,List.drop_eq_getElem_cons U,InS.differ,if_neg hx] at q;simp only[Option.map_some,Nat.zero_add] at q;have u:=Z.out;have hp:=λw h=>Zip K s ((s.n:Int)+k) (by omega) (by omega) w h;have N:=λw h=>Za2 K s 1 ((s.base:Int)+((s.n:Int)+k)) (by decide) (by omega) w h;unfold Zh at N;have I:s.fail (1:Int).toNat ((s.base:Int)+((s.n:Int)+k)).toNat=R.2:=by
       rw[q];simp only;rw[Zd1 s _ ai (by omega)];congr 1
      have J:R.1=false:=by rw[q]
      rw[I] at N;have aa:=QQ J;clear q I J u D hx;go_wp2_with fail
      go_quiet (fail)
      go_wp2_with (first|(go_at_call 55;refine(hp _ (C.drewN _)).mono ?_;rintro e w3 ⟨rfl,rfl⟩)|(go_at_call 51;refine(N _ (C.drewN _)).mono ?_;rintro e w3 ⟨rfl,h3,Y⟩))
      show P (.returned (.bool false)) _
      rw[<-hP];exact⟨by rw[aa.out],h3,(But.of (below_drewN L _)).trans (Y.mono (L.size))⟩
    ·have hk:k=r.length:=by omega
     subst hk;have q:=HR.out;rw[InS.differ_skip _ l r X W O.out,List.drop_length,(InS.differ_nil _).2] at q;simp only[Option.map_none] at q;have u:=Z.out;rw[if_pos (by omega)] at q;have J:R.1=false:=by rw[q]
     have N:=λw h=>ZfO K s w h;unfold Zh at N;have I:s.short=R.2:=by rw[q]
     rw[I] at N;have aa:=QQ J;clear q I J u;go_wp2_with (first|(go_at_call 54;refine(N _ (C.drewN _)).mono ?_;rintro e w3 ⟨rfl,h3,Y⟩))
     show P (.returned (.bool false)) _
     rw[<-hP];exact⟨by rw[aa.out],h3,(But.of (below_drewN L _)).trans (Y.mono (L.size))⟩
   ·have hk:k=l.length:=by omega
    subst hk;have q:=HR.out;rw[InS.differ_skip _ l r X W O.out,List.drop_length,(InS.differ_nil _).1] at q;simp only[Option.map_none] at q;have u:=Z.out;rw[if_neg (by omega)] at q;have ao:=QQ q;clear q;go_wp2_with fail
    show P (.returned (.bool true)) _
    rw[<-hP,ao.out];exact⟨rfl,(C.drewN _).nextZ (s.n+l.length) _ (by omega) (by omega),(But.of (below_drewN L _)).setCell (p:=⟨K,1,none⟩) (.inr rfl) _⟩
 ·have hr:=λw h=>ZdK K s w h h0;rw[InS.want,if_pos h0] at hR;have Hs:=QQ hR;clear hR h h0;go_enter func28,ntmps28
  go_wp2_with (go_at_call 53;refine MR (hr _ H) λw1 y=>?_)
  show P (.returned (.bool false)) _
  rw[<-hP,Hs.out];exact⟨rfl,H.below y,.of y⟩
def ZjV{α:Type}(z x:α)(l:List α):∀m,(List.replicate (m+1) z++l).set m x=List.replicate m z++x::l
 |0=>rfl
 |m+1=>by
  have:=ZjV z x l m;rw[List.replicate_succ,List.cons_append,List.set_cons_succ,this,List.replicate_succ,List.cons_append]
def u8_of(M:Nat):u8V (UInt8.ofNat (M % 256))=.int .u8 ((M:Int) % 256):=by
 unfold u8V;rw[UInt8.toNat_ofNat'];congr 1;omega
def BbRel(N k:Nat)(w0:World)(n i:Value)(wr:World):Prop:=∃m j:Nat,m+j=k/\n=.int .u64 ((N / 256^j:Nat):Int)/\((m=0/\i=.int .i64 (-1))\/∃q:Nat,m=q+1/\i=.int .i64 q)/\
 wr.ownsRow w0.heap.size 5 1 (.slice (some ⟨w0.heap.size,0,none⟩) k k) k ((List.replicate m 0++Zas N j).map u8V)/\Below w0.heap.size w0 wr
def ZeP(N k:Nat)(hN:N<18446744073709551616)(af:1<=k)(hk:k<=8)(w:World):
 Calls prog 34 #[.int .u64 N,.int .i64 k] w λe w'=>e=.returned (.string (B (Zas N k)))/\Below w.heap.size w w':=by
 obtain⟨i0,hi,U,O,L⟩:=info_parts ZeK;have hw:=λw=>ZlI k hk w;go_enter func34,ntmps34
 go_wp2_with (first|(go_at_call 66;refine(hw _).mono ?_;rintro e w1 ⟨rfl,rfl⟩)|(at_make;refine wpList_make_full _ rfl _ _ 110 rfl w.heap.size 5 i0 (.int .u8 0) 1 underlying110 hi U O .i64 .i64 k k k rfl rfl rfl rfl (by rw[L];omega) (by unfold maxLen;omega) NL ?_;intro w1 D W))
 have X:Below w.heap.size w w1:=(Below.refl _ w).grown W NL (λk h=>by cases h);go_loopw [0,6] (λn i wr=>BbRel N k w n i wr) (λ_ i _=>(intOf i+1).toNat)
 case atStart=>
  refine⟨k,0,rfl,by simp,Zj8 k,?_,X⟩;have e:(madeCells (Value.int .u8 0).cells (k*1)).toList=((List.replicate k 0++Zas N 0).map u8V:List Value):=by
   rw[Nat.mul_one,show(Value.int .u8 0).cells=#[.int .u8 0] from rfl,toList_madeCells_one];simp[Zas,u8V]
  rw[<-e];exact D
 case round=>
  obtain⟨m,j,ae,rfl,V,y,hb⟩:=hrel;have hz:=hb.size;rcases V with⟨rfl,rfl⟩|⟨q,rfl,rfl⟩
  ·have hj:j=k:=by omega
   subst hj;rw[List.replicate_zero,List.nil_append] at y;have an:=ZfZ wr y;clear y;go_wp2_with fail
   go_ret
   exact⟨rfl,hb⟩
  ·have I:∃u,wr.cell? ⟨w.heap.size,q,none⟩=some u:=by
    have hl:=y.1;exact⟨_,by rw[y.cellAt q (by omega),List.getElem?_eq_getElem (by omega)]⟩
   obtain⟨u,I⟩:=I;have am:=y.frozenAt q;have ak:w.heap.size<wr.heap.size:=World.block_lt_of_cell? _ _ I;have C:=(y.stored q (u8V (UInt8.ofNat (N / 256^j % 256)))).1;rw[<-List.map_set,ZjV,u8_of] at C;have Y:=QQ C;have ao:N / 256^j<18446744073709551616:=Nat.lt_of_le_of_lt (Nat.div_le_self _ _) hN;have hM:N / 256^(j+1)=N / 256^j / 256:=by rw[Nat.pow_succ,Nat.div_div_eq_div_mul]
   have HM:=QQ hM;clear C y hM;generalize J:N / 256^j=M at*;have Z:=QQ J;clear J;go_wp2_with fail
   go_roundw
   case rel=>
    refine⟨q,j+1,by omega,by rw[HM.out];go_num,Zj8 q,?_,hb.setCell (p:=⟨w.heap.size,q,none⟩) NL _⟩;have:=Y.out;rw[Zas,Z.out];exact this
   case measure=>simp[intOf]
