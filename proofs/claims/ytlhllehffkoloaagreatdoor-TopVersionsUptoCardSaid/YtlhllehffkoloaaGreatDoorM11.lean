/- Lemmas for TopVersions; conditions: as each says. -/
import Derived.OwnWalk
import Derived.Lib.EndianBits
import Derived.Test.YtlhllehffkoloaaGreatDoorM3
set_option linter.unusedVariables false
set_option linter.unusedSimpArgs false
set_option maxRecDepth 100000
set_option maxHeartbeats 2000000
namespace Go.Proofs.YtlhllehffkoloaaGreatDoor
open Go
def Zdc (x:UInt8)(r:List UInt8):Bool:=x==255&&(match r with|[]=>true|y::_=>y==0||decide (224≤y.toNat))
def ZS:List UInt8→List UInt8
 |[]=>[]
 |x::r=>if Zdc x r then x::0::ZS r else x::ZS r
def ZaG:List UInt8→Nat
 |[]=>0
 |x::r=>(if Zdc x r then 1 else 0)+ZaG r
def ZW:Bool→List UInt8→List UInt8
 |_,[]=>[]
 |f,x::r=>if x==0&&f then ZW false r else x::ZW (x==255) r
theorem Zdt:∀l,ZaG l≤l.length
 |[]=>Nat.le_refl _
 |x::r=>by have:=Zdt r;simp only [ZaG,List.length_cons];split<;>omega
theorem Zej:∀l,(ZS l).length=l.length+ZaG l
 |[]=>rfl
 |x::r=>by have:=Zej r;simp only [ZS,ZaG];split<;>simp only [List.length_cons]<;>omega
theorem Zio:∀(f:Bool) (l:List UInt8),(f=true→l.head?≠some 0)→ZW f (ZS l)=l
 |_,[],_=>rfl
 |f,x::r,h=>by
  have hx:(x==0&&f)=false:=by
   cases f
   · simp
   · simpa using h rfl
  by_cases hl:Zdc x r=true
  · have h255:(x==255)=true:=by simp only [Zdc,Bool.and_eq_true] at hl;exact hl.1
    simp [ZS,hl,ZW,hx,h255,Zio false r (by intro h;cases h)]
  · have hl':Zdc x r=false:=by simpa using hl
    simp only [ZS,hl',ZW,hx,if_false,Bool.false_eq_true];rw [Zio (x==255) r];intro hf hr
    match r,hr with
    |y::q,hr=>
     simp only [List.head?_cons,Option.some.injEq] at hr;simp [Zdc,hf,hr] at hl'
theorem ZlN (l:List UInt8):ZW false (ZS l)=l:=Zio false l (by intro h;cases h)
def looksAt (l:List UInt8)(i:Nat):Bool:=match l.drop i with|[]=>false|x::r=>Zdc x r
theorem ZuF (l:List UInt8)(i:Nat)(h:i<l.length):
 ZS (l.drop i)=(if looksAt l i then [l[i],0] else [l[i]])++ZS (l.drop (i+1)):=by
 rw [List.drop_eq_getElem_cons h];simp only [ZS,looksAt,List.drop_eq_getElem_cons h];split<;>rfl
theorem Zsy (l:List UInt8)(i:Nat)(h:i<l.length):
 ZaG (l.drop i)=(if looksAt l i then 1 else 0)+ZaG (l.drop (i+1)):=by
 rw [List.drop_eq_getElem_cons h];simp only [ZaG,looksAt,List.drop_eq_getElem_cons h]
theorem Zsc (f:Bool)(l:List UInt8)(i:Nat)(h:i<l.length):
 ZW f (l.drop i)=if l[i]==0&&f then ZW false (l.drop (i+1)) else l[i]::ZW (l[i]==255) (l.drop (i+1)):=by
 rw [List.drop_eq_getElem_cons h];simp only [ZW]
def ZR (n:Nat):List UInt8:=[UInt8.ofNat (n / 2097152 % 128),UInt8.ofNat (n / 16384 % 128),UInt8.ofNat (n / 128 % 128),UInt8.ofNat (n % 128)]
def Za3 (l:List UInt8):Nat:=l.foldl (fun n x=>n*128+x.toNat) 0
theorem Zu7 (n:Nat):(ZR n).all (fun x=>decide (x.toNat<128))=true:=by
 have h:∀m,m % 128 % 256<128:=fun m=>by omega
 simp [ZR,UInt8.toNat_ofNat',h]
theorem Zu9 (n:Nat)(h:n<268435456):Za3 (ZR n)=n:=by
 simp only [Za3,ZR,List.foldl,UInt8.toNat_ofNat'];omega
structure InS where
 t:List UInt8
 n:Nat
 base:Nat
 e:Nat
 a:Nat
def ZgX:Nat:=9223372036854775807
namespace InS
def place (s:InS)(k:Nat):Nat:=if k>ZgX - s.base then ZgX else s.base+k
def fail (s:InS)(e a:Nat):InS:=if s.e=0∧e≠0 then{s with e:=e,a:=a} else s
def short (s:InS):InS:=s.fail 1 (s.place s.t.length)
def left (s:InS):Nat:=if s.e=0 then s.t.length - s.n else 0
def at_ (s:InS):Nat:=s.place s.n
def take (s:InS)(k:Nat):List UInt8×InS:=
 if s.e≠0 then([],s) else if s.t.length - s.n<k then([],s.short)
 else((s.t.drop s.n).take k,{s with n:=s.n+k})
def rest (s:InS):List UInt8×InS:=s.take s.left
def peek (s:InS)(k:Nat):List UInt8:=if s.e≠0 then [] else(s.t.drop s.n).take k
def bigN (l:List UInt8):Nat:=l.foldl (fun n x=>(n*256+x.toNat) % 18446744073709551616) 0
def big (s:InS)(w:Nat):Nat×InS:=let p:=s.take (min w 8);(bigN p.1,p.2)
def high:List UInt8→Option Nat
 |[]=>none
 |x::r=>if 128≤x.toNat then some 0 else(high r).map (· +1)
def safe (s:InS):Nat×InS:=
 let p:=s.take 4
 match high p.1 with
 |some i=>(0,p.2.fail 1 (p.2.place (p.2.n - p.1.length+i)))
 |none=>(Za3 p.1,p.2)
def differ:List UInt8→List UInt8→Option Nat
 |x::r,y::q=>if x=y then(differ r q).map (· +1) else some 0
 |_,_=>none
def want (s:InS)(w:List UInt8):Bool×InS:=
 if s.e≠0 then(false,s) else
 match differ w (s.t.drop s.n) with
 |some i=>(false,s.fail 1 (s.place (s.n+i)))
 |none=>if s.t.length - s.n<w.length then(false,s.short) else(true,{s with n:=s.n+w.length})
def mk' (base:Nat)(p r:List UInt8):InS:=⟨p++r,p.length,base,0,0⟩
theorem left_mk (b:Nat)(p r:List UInt8):(mk' b p r).left=r.length:=by simp [left,mk']
theorem take_mk (b:Nat)(p x r:List UInt8):(mk' b p (x++r)).take x.length=(x,mk' b (p++x) r):=by
 have h:¬x.length+r.length<x.length:=by omega
 simp [take,mk',List.append_assoc,h]
theorem take_mk' (b:Nat)(p x r:List UInt8)(k:Nat)(h:x.length=k):(mk' b p (x++r)).take k=(x,mk' b (p++x) r):=by
 rw [←h,take_mk]
theorem rest_mk (b:Nat)(p r:List UInt8):(mk' b p r).rest=(r,mk' b (p++r) []):=by
 have:=take_mk b p r [];simp only [List.append_nil] at this;rw [rest,left_mk,this]
theorem peek_mk (b:Nat)(p r:List UInt8)(k:Nat):(mk' b p r).peek k=r.take k:=by simp [peek,mk']
theorem big_mk (b:Nat)(p x r:List UInt8)(w:Nat)(h:x.length=min w 8):
 (mk' b p (x++r)).big w=(bigN x,mk' b (p++x) r):=by
 simp [big,take_mk' b p x r _ h]
theorem high_none:∀l:List UInt8,l.all (fun x=>decide (x.toNat<128))=true→high l=none
 |[],_=>rfl
 |x::r,h=>by
  simp only [List.all_cons,Bool.and_eq_true,decide_eq_true_eq] at h;have hx:¬128≤x.toNat:=by omega
  simp [high,hx,high_none r h.2]
theorem safe_mk (b:Nat)(p r:List UInt8)(k:Nat)(h:k<268435456):
 (mk' b p (ZR k++r)).safe=(k,mk' b (p++ZR k) r):=by
 simp [safe,take_mk' b p (ZR k) r 4 rfl,high_none _ (Zu7 k),Zu9 k h]
theorem differ_same:∀w r:List UInt8,differ w (w++r)=none
 |[],_=>by simp [differ]
 |x::w,r=>by simp [differ,differ_same w r]
theorem want_mk (b:Nat)(p w r:List UInt8):(mk' b p (w++r)).want w=(true,mk' b (p++w) r):=by
 simp [want,mk',differ_same,List.append_assoc]
end InS
def Zal (n:Nat):Nat→List UInt8
 |0=>[]
 |w+1=>UInt8.ofNat (n / 256^w % 256)::Zal n w
theorem ZdZ (n:Nat):∀w,(Zal n w).length=w
 |0=>rfl
 |w+1=>by simp [Zal,ZdZ n w]
theorem bigB_3 (n:Nat)(h:n<16777216):InS.bigN (Zal n 3)=n:=by
 simp only [InS.bigN,Zal,List.foldl,UInt8.toNat_ofNat',Nat.pow_zero,Nat.div_one];omega
theorem bigB_4 (n:Nat)(h:n<4294967296):InS.bigN (Zal n 4)=n:=by
 simp only [InS.bigN,Zal,List.foldl,UInt8.toNat_ofNat',Nat.pow_zero,Nat.div_one];omega
end Go.Proofs.YtlhllehffkoloaaGreatDoor
namespace Go.Proofs.YtlhllehffkoloaaGreatDoor
open Go Go.RowKit
theorem Ze9 {w:World} {k j g:Nat} (h:g≠k)(v:Value):(w.setCell ⟨k,j,none⟩ v).heap[g]? =w.heap[g]?:=heap_setCell_other w ⟨k,j,none⟩ g v h
def five (s:InS):Array Value:=#[.string (B s.t),.int .i64 s.n,.int .i64 s.base,.int .i64 s.e,.int .i64 s.a]
structure InAt (w:World)(K:Nat)(s:InS):Prop where
 row:w.heap[K]? =some (.cells (five s) 190 (0,0))
 fits:s.n≤s.t.length
 room:s.base+s.t.length≤1000000000
section
variable {w w':World} {K:Nat} {s:InS}
theorem InAt.len (h:InAt w K s):s.t.length≤1000000000:=by have:=h.room;omega
theorem InAt.base (h:InAt w K s):s.base≤1000000000:=by have:=h.room;omega
theorem InAt.lt (h:InAt w K s):K<w.heap.size:=(Array.getElem?_eq_some_iff.1 h.row).1
theorem InAt.get (h:InAt w K s):w.cell? ⟨K,0,none⟩=some (.string (B s.t))∧w.cell? ⟨K,1,none⟩=some (.int .i64 s.n)∧w.cell? ⟨K,2,none⟩=some (.int .i64 s.base)∧w.cell? ⟨K,3,none⟩=some (.int .i64 s.e)∧w.cell? ⟨K,4,none⟩=some (.int .i64 s.a):=by
 refine⟨?_,?_,?_,?_,?_⟩<;>(rw [cell_of_row _ K _ _ _ (0,0) h.row];rfl)
theorem InAt.free (h:InAt w K s)(j:Nat):w.frozen? ⟨K,j,none⟩=false:=frozen_of_row _ K j _ _ h.row
theorem InAt.same (h:InAt w K s)(e:w'.heap[K]? =w.heap[K]?):InAt w' K s:=⟨e.trans h.row,h.fits,h.room⟩
theorem InAt.below (h:InAt w K s)(hb:Below w.heap.size w w'):InAt w' K s:=h.same (hb.block K h.lt)
theorem InAt.alloc (h:InAt w K s)(o:Obj):InAt (w.alloc o) K s:=h.below ((Below.refl _ _).alloc (Nat.le_refl _) _)
theorem InAt.but {C:Nat} (h:InAt w K s)(hb:But C w.heap.size w w')(hC:K≠C):InAt w' K s:=h.same (hb.block K h.lt hC)
theorem InAt.drewN (h:InAt w K s)(n:Nat):InAt (w.drewN n) K s:=h.same rfl
theorem InAt.set (h:InAt w K s){g:Nat} (hg:K≠g)(j:Nat)(v:Value):InAt (w.setCell ⟨g,j,none⟩ v) K s:=h.same (Ze9 hg v)
theorem InAt.next (h:InAt w K s)(n:Nat)(hn:n≤s.t.length):InAt (w.setCell ⟨K,1,none⟩ (.int .i64 n)) K {s with n:=n}:=
 ⟨by rw [heap_setCell_same w K 1 _ _ _ h.row];rfl,hn,h.room⟩
theorem InAt.wrong (h:InAt w K s)(e a:Nat):InAt ((w.setCell ⟨K,3,none⟩ (.int .i64 e)).setCell ⟨K,4,none⟩ (.int .i64 a)) K {s with e:=e,a:=a}:=by
 have h1:=heap_setCell_same w K 3 _ _ (.int .i64 e) h.row;exact⟨by rw [heap_setCell_same _ K 4 _ _ _ h1];rfl,h.fits,h.room⟩
end
theorem ZdG (s:InS)(k:Nat)(hb:s.base≤1000000000)(hk:k≤1000000000):s.place k=s.base+k:=by
 unfold InS.place ZgX;rw [if_neg (by omega)]
def Zh (K:Nat)(w:World)(v:Value)(s:InS)(e:Ending)(w':World):Prop:=e= .returned v∧InAt w' K s∧But K w.heap.size w w'
theorem ZdN (K:Nat)(s:InS)(w:World)(h:InAt w K s):
 Calls Tryz.prog 70 #[.pointer (some ⟨K,0,none⟩)] w fun e w'=>e= .returned (.int .i64 s.at_)∧w=w':=by
 have hp:=ZdG s s.n h.base (by have:=h.fits;have:=h.len;omega);obtain⟨c0,c1,c2,c3,c4⟩:=h.get;have h1:=h.fits;have h2:=h.len;have h3:=h.base;clear h;obtain⟨t,n,b,e,a⟩:=s;simp only at c0 c1 c2 c3 c4 h1 h2 h3;have HP:=Lib.hid hp;clear hp;go_enter Tryz.func70,Tryz.ntmps70
 go_wp2_with go_in
 go_ret
 exact⟨ZaA (by rw [InS.at_,HP.out];simp),rfl⟩
def u8V (c:UInt8):Value:= .int .u8 c.toNat
theorem Zv4 (l:List UInt8):l.map u8V=(l.map fun c:UInt8=>(c.toNat:Int)).map (Value.int .u8):=by
 rw [List.map_map];rfl
theorem Zvy (l:List UInt8):strOfNums (l.map fun c:UInt8=>(c.toNat:Int))=B l:=by
 unfold strOfNums B;congr 1
 rw [List.map_map];congr 1
 conv=>rhs;rw [←List.map_id l]
 exact List.map_congr_left fun c _=>by simp
theorem Zet:(Tryz.prog.info? 5).map (fun i=>(i.zero,i.size,i.bytes))=some (some (.int .u8 0),1,1):=by kernel_rfl
theorem Zfv (w:World){base:Nat} {v:Value} {n:Nat} {l:List UInt8} (h:w.ownsRow base 5 1 v n (l.map u8V)):
 (convert 105 9 v).run Tryz.prog w= .ok (.string (B l)) w:=by
 rw [Zv4] at h;have:=Zd5 (P:=Tryz.prog) 105 9 5 Tryz.underlying105 Tryz.underlying5 Tryz.underlying9 w h;rw [Zvy] at this;exact this
theorem Zv6 (w:World)(q:Value)(T:TypeId):∀j u,[q][j]? =some u→(w.alloc (.cells #[q] T)).cell? ((⟨w.heap.size,0,none⟩:Addr).add j)=some u:=by
 intro j u hu;have hadd:(⟨w.heap.size,0,none⟩:Addr).add j=⟨w.heap.size,j,none⟩:=by unfold Addr.add;split<;>simp_all
 rw [hadd,cell_of_row _ w.heap.size j _ T (0,0) (heap_alloc_new w _)];simpa using hu
section
variable {ops:Array Oper} {rest:List Oper} {o:Oper} {a:Act} {Q:Exit→Act→World→Prop}
theorem ZdY (hgd:o.guard=none)(s x:Operand)(ho:o.op= .call {callee:= .builtin .append,args:=#[s,x],argTypes:=#[105,105]}) (base:Nat) (v:Value) (l:List UInt8) (hs:a.eval s=v) (W:World) (y:UInt8) (q:Value) (hq:q=u8V y)
 (hown:W.ownsRow base 5 1 v l.length (l.map u8V)) (hbase:base≤W.heap.size) (hlen:l.length≤35184372080000) (hx:a.eval x= .slice (some ⟨W.heap.size,0,none⟩) 1 1)
 (h:∀v' w',Hid (w'.ownsRow base 5 1 v' (l++[y]).length ((l++[y]).map u8V))→Below base W w'→wpList Tryz.prog ops Q rest (a.put o.dst v') w'):
 wpList Tryz.prog ops Q (o::rest) a (W.alloc (.cells #[q] 5)):=by
 obtain⟨i0,hi,iz0,iz1,iz2⟩:=info_parts Zet;subst hq;refine wpList_append_own _ hgd s x 105 ho base 5 i0 _ 1 1 Tryz.underlying105 hi iz0 iz1 iz2 rfl (by decide) v l.length _ hs (hown.alloc _) ⟨W.heap.size,0,none⟩ 1 1 [u8V y] hx rfl (Zv6 W _ _) ?_ (by unfold maxLen;omega) (by omega) (by simp;omega) ?_
 · intro u hu;simp only [List.mem_singleton] at hu;subst hu;rfl
 · intro v6 w6 hown6 hg6 _;refine h v6 w6 (Lib.hid ?_) (Z7 ((Below.refl _ W).alloc hbase _) (hown.alloc _) hg6 (by simp;omega) (Nat.le_refl _));rw [List.length_append,List.map_append];exact hown6
end
theorem InAt.wrongZ {w:World} {K:Nat} {s:InS} (h:InAt w K s)(e a:Int)(he:0≤e)(ha:0≤a):InAt ((w.setCell ⟨K,3,none⟩ (.int .i64 e)).setCell ⟨K,4,none⟩ (.int .i64 a)) K {s with e:=e.toNat,a:=a.toNat}:=by
 have:=h.wrong e.toNat a.toNat
 rwa [Int.toNat_of_nonneg he,Int.toNat_of_nonneg ha] at this
theorem InAt.nextZ {w:World} {K:Nat} {s:InS} (h:InAt w K s)(n:Nat)(z:Int)(hz:z=n)(hn:n≤s.t.length):InAt (w.setCell ⟨K,1,none⟩ (.int .i64 z)) K {s with n:=n}:=by
 subst hz;exact h.next n hn
theorem Z0 (e a:Int)(h:e=0)(w:World):
 Calls Tryz.prog 11 #[.agg #[.int .i64 e,.int .i64 a]] w fun e w'=>e= .returned (.bool false)∧Below w.heap.size w w':=by
 subst h;go_enter Tryz.func11,Tryz.ntmps11
 go_wp2_with fail
 go_ret
 exact⟨rfl,(Below.refl _ w).alloc (Nat.le_refl _) _⟩
theorem ZaY (e a:Int)(h:e≠0)(w:World):
 Calls Tryz.prog 11 #[.agg #[.int .i64 e,.int .i64 a]] w fun e w'=>e= .returned (.bool true)∧Below w.heap.size w w':=by
 have h1:(e==0)=false:=by simpa using h
 have h2:(e !=0)=true:=by simpa using h
 go_enter Tryz.func11,Tryz.ntmps11
 go_wp2_with fail
 go_ret
 exact⟨rfl,(Below.refl _ w).alloc (Nat.le_refl _) _⟩
theorem ZeB (K:Nat)(s:InS)(w:World)(h:InAt w K s)(he:s.e=0):
 Calls Tryz.prog 128 #[.pointer (some ⟨K,0,none⟩)] w fun e w'=>e= .returned (.bool true)∧Below w.heap.size w w':=by
 obtain⟨c0,c1,c2,c3,c4⟩:=h.get;rw [he] at c3;have hb:=fun w=>Z0 ((0:Nat):Int) s.a rfl w;clear h he c0 c1 c2;go_enter Tryz.func128,Tryz.ntmps128
 go_wp2_with (go_at_call 11;refine(hb _).mono ?_;rintro e w1 ⟨rfl,hb1⟩)
 go_ret
 exact⟨rfl,hb1⟩
theorem ZeA (K:Nat)(s:InS)(w:World)(h:InAt w K s)(he:s.e≠0):
 Calls Tryz.prog 128 #[.pointer (some ⟨K,0,none⟩)] w fun e w'=>e= .returned (.bool false)∧Below w.heap.size w w':=by
 obtain⟨c0,c1,c2,c3,c4⟩:=h.get;have hb:=fun w=>ZaY (s.e:Int) s.a (by omega) w;clear h he c0 c1 c2;go_enter Tryz.func128,Tryz.ntmps128
 go_wp2_with (go_at_call 11;refine(hb _).mono ?_;rintro e w1 ⟨rfl,hb1⟩)
 go_ret
 exact⟨rfl,hb1⟩
theorem ZhN (K:Nat)(s:InS)(z:Int)(h0:0≤z)(h1:z≤1000000000)(w:World)(h:InAt w K s):
 Calls Tryz.prog 129 #[.pointer (some ⟨K,0,none⟩),.int .i64 z] w fun e w'=>e= .returned (.int .i64 (s.base+z))∧w=w':=by
 obtain⟨c0,c1,c2,c3,c4⟩:=h.get;have hb:=h.base;clear h c0 c1 c3 c4;go_enter Tryz.func129,Tryz.ntmps129
 go_wp2_with fail
 go_ret
 exact⟨rfl,rfl⟩
theorem Za7 (K:Nat)(s:InS)(e z:Int)(he:0<e)(hz:0≤z)(w:World)(h:InAt w K s):
 Calls Tryz.prog 124 #[.pointer (some ⟨K,0,none⟩),.int .i64 e,.int .i64 z] w (Zh K w (.tuple #[]) (s.fail e.toNat z.toNat)):=by
 generalize hP:Zh K w (.tuple #[]) (s.fail e.toNat z.toNat)=P at*;have H:=Lib.hid h;by_cases h0:s.e=0
 · have hr:=fun w h=>ZeB K s w h h0;have hs:s.fail e.toNat z.toNat={s with e:=e.toNat,a:=z.toNat}:=by
    unfold InS.fail;rw [if_pos ⟨h0,by omega⟩]
   have h1:(e==0)=false:=by rw [beq_eq_false_iff_ne];omega
   have h2:(e !=0)=true:=by simp;omega
   have Hs:=Lib.hid hs;obtain⟨c0,c1,c2,c3,c4⟩:=h.get;have f3:=h.free 3;have f4:=h.free 4;have hlt:=h.lt;clear hs h h0;go_enter Tryz.func124,Tryz.ntmps124
   go_wp2_with (go_at_call 128;refine(hr _ H.out).mono ?_;rintro e w1 ⟨rfl,hb1⟩;obtain⟨hc,hf⟩:=ZcE hb1)
   go_end0
   rw [←hP,Hs.out];exact⟨rfl,(H.out.below hb1).wrongZ _ _ (by omega) hz,((But.of hb1).setCell (p:=⟨K,3,none⟩) (.inr rfl) _).setCell (p:=⟨K,4,none⟩) (.inr rfl) _⟩
 · have hr:=fun w h=>ZeA K s w h h0;have hs:s.fail e.toNat z.toNat=s:=by unfold InS.fail;rw [if_neg (fun h=>h0 h.1)]
   have Hs:=Lib.hid hs;clear hs h h0;go_enter Tryz.func124,Tryz.ntmps124
   go_wp2_with (go_at_call 128;refine(hr _ H.out).mono ?_;rintro e w1 ⟨rfl,hb1⟩)
   go_end0
   rw [←hP,Hs.out];exact⟨rfl,H.out.below hb1,.of hb1⟩
theorem ZhR (K:Nat)(s:InS)(w:World)(h:InAt w K s):
 Calls Tryz.prog 130 #[.pointer (some ⟨K,0,none⟩)] w (Zh K w (.tuple #[]) s.short):=by
 have hf:=fun w h=>Za7 K s 1 (s.base+(s.t.length:Int)) (by decide) (by omega) w h;have hs:s.fail (1:Int).toNat ((s.base:Int)+(s.t.length:Int)).toNat=s.short:=by
  rw [InS.short,ZdG s _ h.base h.len];congr 1
 rw [hs] at hf;unfold Zh at hf;generalize hP:Zh K w (.tuple #[]) s.short=P at*;obtain⟨c0,c1,c2,c3,c4⟩:=h.get;have hl:=h.len;have hp:=fun w h=>ZhN K s s.t.length (by omega) (by omega) w h;have hsz:=Zn s.t;have H:=Lib.hid h;clear h hs c1 c2 c3 c4;go_enter Tryz.func130,Tryz.ntmps130
 go_wp2_with (first|(go_at_call 129;refine(hp _ H.out).mono ?_;rintro e w1 ⟨rfl,rfl⟩)|(go_at_call 124;refine(hf _ H.out).mono ?_;rintro e w1 ⟨rfl,h1,hb1⟩))
 go_end0
 rw [←hP];exact⟨rfl,h1,hb1⟩
theorem Zcz (K:Nat)(s:InS)(w:World)(h:InAt w K s):
 Calls Tryz.prog 68 #[.pointer (some ⟨K,0,none⟩)] w fun e w'=>e= .returned (.agg #[.int .i64 s.e,.int .i64 s.a])∧Below w.heap.size w w':=by
 obtain⟨c0,c1,c2,c3,c4⟩:=h.get;have hlt:=h.lt;clear h c0 c1 c2;go_enter Tryz.func68,Tryz.ntmps68
 go_wp2_with fail
 refine bodyPost_ret (v:= .agg #[.int .i64 s.e,.int .i64 s.a]) (by simp [results,Tryz.results68,go_sem]) rfl ?_;exact⟨rfl,(Below.refl _ w).alloc (Nat.le_refl _) _⟩
theorem ZhF (K:Nat)(s:InS)(w:World)(h:InAt w K s):
 Calls Tryz.prog 135 #[.pointer (some ⟨K,0,none⟩)] w fun e w'=>e= .returned (.int .i64 s.left)∧Below w.heap.size w w':=by
 have H:=Lib.hid h;by_cases h0:s.e=0
 · have hr:=fun w h=>ZeB K s w h h0;have hs:((s.left:Nat):Int)=(s.t.length:Int) - s.n:=by
    unfold InS.left;rw [if_pos h0];have:=h.fits;omega
   have Hs:=Lib.hid hs;obtain⟨c0,c1,c2,c3,c4⟩:=h.get;have hlt:=h.lt;have hfi:=h.fits;have hle:=h.len;have hsz:=Zn s.t;clear hs h h0 c2 c3 c4;go_enter Tryz.func135,Tryz.ntmps135
   go_wp2_with (go_at_call 128;refine(hr _ H.out).mono ?_;rintro e w1 ⟨rfl,hb1⟩;obtain⟨hc,hf⟩:=ZcE hb1)
   go_quiet (fail)
   go_wp2_with fail
   go_ret
   exact⟨ZaA Hs.out.symm,below_drewN hb1 _⟩
 · have hr:=fun w h=>ZeA K s w h h0;have hs:s.left=0:=by unfold InS.left;rw [if_neg h0]
   have Hs:=Lib.hid hs;clear hs h h0;go_enter Tryz.func135,Tryz.ntmps135
   go_wp2_with (go_at_call 128;refine(hr _ H.out).mono ?_;rintro e w1 ⟨rfl,hb1⟩)
   go_ret
   exact⟨ZaA (by rw [Hs.out];rfl),hb1⟩
theorem Zkh (t:List UInt8)(z:Int)(h0:0≤z)(h1:z+t.length≤1000000000)(w:World):
 Calls Tryz.prog 74 #[.string (B t),.int .i64 z] w fun e w'=>e= .returned (.pointer (some ⟨w.heap.size,0,none⟩))∧InAt w' w.heap.size ⟨t,0,z.toNat,0,0⟩∧Below w.heap.size w w'∧w'.heap.size=w.heap.size+1:=by
 have hz:(max z 0)=z:=by omega
 have HZ:=Lib.hid (Int.toNat_of_nonneg h0);go_enter Tryz.func74,Tryz.ntmps74
 go_wp2_with fail
 go_ret
 refine⟨rfl,⟨?_,Nat.zero_le _,by simp only;omega⟩,(Below.refl _ w).alloc (Nat.le_refl _) _,by simp⟩;rw [heap_alloc_new];simp only [five,HZ.out];rfl
theorem ZkC (t:List UInt8)(ht:t.length≤1000000000)(w:World):
 Calls Tryz.prog 65 #[.string (B t)] w fun e w'=>e= .returned (.pointer (some ⟨w.heap.size,0,none⟩))∧InAt w' w.heap.size ⟨t,0,0,0,0⟩∧Below w.heap.size w w'∧w'.heap.size=w.heap.size+1:=by
 have hi:=Zkh t 0 (by decide) (by omega);go_enter Tryz.func65,Tryz.ntmps65
 go_wp2_with (go_at_call 74;refine(hi _).mono ?_;rintro e w1 ⟨rfl,h1,hb1,hz1⟩)
 go_ret
 exact⟨rfl,h1,hb1,hz1⟩
theorem Zdo (K:Nat)(s:InS)(z:Int)(hz:0≤z)(hz2:z≤9223372036854775807)(w:World)(h:InAt w K s):
 Calls Tryz.prog 72 #[.pointer (some ⟨K,0,none⟩),.int .i64 z] w (Zh K w (.string (B (s.take z.toNat).1)) (s.take z.toNat).2):=by
 obtain⟨k,rfl⟩:∃k:Nat,z=k:=⟨z.toNat,by omega⟩
 rw [Int.toNat_natCast];generalize hP:Zh K w (.string (B (s.take k).1)) (s.take k).2=P at*;have H:=Lib.hid h;by_cases h0:s.e=0
 · have hr:=fun w h=>ZeB K s w h h0;by_cases hk:s.t.length - s.n<k
   · have hs:s.take k=([],s.short):=by unfold InS.take;rw [if_neg (by omega),if_pos hk]
     have Hs:=Lib.hid hs;have hsh:=fun w h=>ZhR K s w h;unfold Zh at hsh;obtain⟨c0,c1,c2,c3,c4⟩:=h.get;have hlt:=h.lt;have hfi:=h.fits;have hle:=h.len;have hsz:=Zn s.t;have hd:decide ((k:Int)<0)=false:=by simp
     clear hs h h0 c2 c3 c4 hz;go_enter Tryz.func72,Tryz.ntmps72
     go_wp2_with (go_at_call 128;refine(hr _ H.out).mono ?_;rintro e w1 ⟨rfl,hb1⟩;obtain⟨hc,hf⟩:=ZcE hb1)
     go_quiet (fail)
     go_wp2_with (go_at_call 130;refine(hsh _ ((H.out.below hb1).drewN _)).mono ?_;rintro e w2 ⟨rfl,h2,hb2⟩)
     show P (.returned (.string ⟨#[]⟩)) _
     rw [←hP,Hs.out];exact⟨rfl,h2,(But.of (below_drewN hb1 _)).trans (hb2.mono hb1.size)⟩
   · have hs:s.take k=((s.t.drop s.n).take k,{s with n:=s.n+k}):=by unfold InS.take;rw [if_neg (by omega),if_neg hk]
     have Hs:=Lib.hid hs;obtain⟨c0,c1,c2,c3,c4⟩:=h.get;have f1:=h.free 1;have hlt:=h.lt;have hfi:=h.fits;have hle:=h.len;have hsz:=Zn s.t;have hd:decide ((k:Int)<0)=false:=by simp
     have hd2:decide ((k:Int)>(s.t.length:Int) - s.n)=false:=by rw [decide_eq_false_iff_not];omega
     have he:(B s.t).extract s.n (s.n+k)=B ((s.t.drop s.n).take k):=by rw [Zfg];congr 2;omega
     have He:=Lib.hid he;clear hs h h0 c2 c3 c4 hz he;go_enter Tryz.func72,Tryz.ntmps72
     go_wp2_with (go_at_call 128;refine(hr _ H.out).mono ?_;rintro e w1 ⟨rfl,hb1⟩;obtain⟨hc,hf⟩:=ZcE hb1)
     go_quiet (fail)
     go_wp2_with fail
     go_quiet (fail)
     go_wp2_with fail
     show P (.returned (.string ((B s.t).extract s.n (s.n+k)))) _
     rw [He.out,←hP,Hs.out];exact⟨rfl,((H.out.below hb1).drewN _).nextZ (s.n+k) ((s.n:Int)+k) (by omega) (by omega),((But.of (below_drewN hb1 _))).setCell (p:=⟨K,1,none⟩) (.inr rfl) _⟩
 · have hr:=fun w h=>ZeA K s w h h0;have hs:s.take k=([],s):=by unfold InS.take;rw [if_pos h0]
   have Hs:=Lib.hid hs;clear hs h h0;go_enter Tryz.func72,Tryz.ntmps72
   go_wp2_with (go_at_call 128;refine(hr _ H.out).mono ?_;rintro e w1 ⟨rfl,hb1⟩)
   show P (.returned (.string ⟨#[]⟩)) _
   rw [←hP,Hs.out];exact⟨rfl,H.out.below hb1,.of hb1⟩
theorem Zfp (K:Nat)(s:InS)(w:World)(h:InAt w K s):
 Calls Tryz.prog 75 #[.pointer (some ⟨K,0,none⟩)] w (Zh K w (.string (B s.rest.1)) s.rest.2):=by
 have hle:s.left≤1000000000:=by have:=h.len;unfold InS.left;split<;>omega
 have hl:=fun w h=>ZhF K s w h;have ht:=fun w h=>Zdo K s s.left (by omega) (by omega) w h;rw [Int.toNat_natCast] at ht;unfold Zh at ht;have hs:s.rest=s.take s.left:=rfl;rw [hs];generalize hP:Zh K w (.string (B (s.take s.left).1)) (s.take s.left).2=P at*;have H:=Lib.hid h;clear hs h hle;go_enter Tryz.func75,Tryz.ntmps75
 go_wp2_with (first|(go_at_call 135;refine(hl _ H.out).mono ?_;rintro e w1 ⟨rfl,hb1⟩;have h1:=H.out.below hb1;have H1:=Lib.hid h1;clear h1)|(go_at_call 72;refine(ht _ H1.out).mono ?_;rintro e w2 ⟨rfl,h2,hb2⟩))
 show P (.returned (.string (B (s.take s.left).1))) _
 rw [←hP];exact⟨rfl,h2,(But.of hb1).trans (hb2.mono hb1.size)⟩
theorem Zkv (K:Nat)(s:InS)(k:Nat)(w:World)(h:InAt w K s)(hk:k≤1000000000):
 Calls Tryz.prog 150 #[.pointer (some ⟨K,0,none⟩),.int .i64 k] w fun e w'=>e= .returned (.string (B (s.peek k)))∧Below w.heap.size w w':=by
 have H:=Lib.hid h;by_cases h0:s.e=0
 · have hr:=fun w h=>ZeB K s w h h0;obtain⟨c0,c1,c2,c3,c4⟩:=h.get;have hlt:=h.lt;have hfi:=h.fits;have hle:=h.len;have hsz:=Zn s.t;by_cases hk2:(k:Int)≤(s.t.length:Int) - s.n
   · have he:(B s.t).extract s.n (s.n+k)=B (s.peek k):=by
      rw [Zfg];congr 1;unfold InS.peek;rw [if_neg (by omega),show s.n+k - s.n=k by omega]
     have He:=Lib.hid he;clear h h0 c2 c3 c4 he;go_enter Tryz.func150,Tryz.ntmps150
     go_wp2_with (go_at_call 128;refine(hr _ H.out).mono ?_;rintro e w1 ⟨rfl,hb1⟩;obtain⟨hc,hf⟩:=ZcE hb1)
     go_quiet (fail)
     go_wp2_with fail
     go_quiet (fail)
     go_wp2_with fail
     go_ret
     refine⟨?_,below_drewN (below_drewN hb1 _) _⟩;show Ending.returned (.string ((B s.t).extract s.n ((s.n:Int)+min (k:Int) ((s.t.length:Int) - s.n)).toNat))=_;rw [←He.out];congr 3;omega
   · have he:(B s.t).extract s.n (s.n+(s.t.length - s.n))=B (s.peek k):=by
      rw [Zfg];congr 1;unfold InS.peek;rw [if_neg (by omega),show s.n+(s.t.length - s.n) - s.n=s.t.length - s.n by omega];rw [List.take_of_length_le (by simp),List.take_of_length_le (by simp;omega)]
     have He:=Lib.hid he;clear h h0 c2 c3 c4 he;go_enter Tryz.func150,Tryz.ntmps150
     go_wp2_with (go_at_call 128;refine(hr _ H.out).mono ?_;rintro e w1 ⟨rfl,hb1⟩;obtain⟨hc,hf⟩:=ZcE hb1)
     go_quiet (fail)
     go_wp2_with fail
     go_quiet (fail)
     go_wp2_with fail
     go_ret
     refine⟨?_,below_drewN (below_drewN hb1 _) _⟩;show Ending.returned (.string ((B s.t).extract s.n ((s.n:Int)+min (k:Int) ((s.t.length:Int) - s.n)).toNat))=_;rw [←He.out];congr 3;omega
 · have hr:=fun w h=>ZeA K s w h h0;have hs:s.peek k=[]:=by unfold InS.peek;rw [if_pos h0]
   have Hs:=Lib.hid hs;clear hs h h0;go_enter Tryz.func150,Tryz.ntmps150
   go_wp2_with (go_at_call 128;refine(hr _ H.out).mono ?_;rintro e w1 ⟨rfl,hb1⟩)
   go_ret
   exact⟨by rw [Hs.out];rfl,hb1⟩
theorem ZkX (k:Nat)(hk:k≤8)(w:World):Calls Tryz.prog 45 #[.int .i64 k] w fun e w'=>e= .returned (.int .i64 k)∧w=w':=by
 obtain rfl|rfl|rfl|rfl|rfl|rfl|rfl|rfl|rfl:k=0∨k=1∨k=2∨k=3∨k=4∨k=5∨k=6∨k=7∨k=8:=by omega
 all_goals
  go_enter Tryz.func45,Tryz.ntmps45
  go_wp2_with fail
  go_ret
  exact⟨rfl,rfl⟩
namespace InS
theorem bigN_lt:∀(l:List UInt8),l.length≤8→bigN l<256^l.length∧∀(m:List UInt8) (x:UInt8),l=m++[x]→bigN l=bigN m*256+x.toNat:=by
 intro l;induction h:l.length generalizing l with
 |zero=>intro _;have:=List.eq_nil_of_length_eq_zero h;subst this;exact⟨by decide,fun m x e=>by simp at e⟩
 |succ n ih=>
  intro hl;have hne:l≠[]:=by rintro rfl;simp at h
  obtain⟨m,x,rfl⟩:∃m x,l=m++[x]:=⟨_,_,(List.dropLast_concat_getLast hne).symm⟩
  have hm:m.length=n:=by simpa using h
  obtain⟨h1,_⟩:=ih m hm (by omega);have hx:=x.toNat_lt;have hp:256^n≤256^7:=Nat.pow_le_pow_right (by decide) (by omega);have e:bigN (m++[x])=bigN m*256+x.toNat:=by
   have:bigN (m++[x])=(bigN m*256+x.toNat) % 18446744073709551616:=by
    unfold bigN;rw [List.foldl_append];rfl
   rw [this,Nat.mod_eq_of_lt];have:(256:Nat)^7*256=18446744073709551616:=by decide
   omega
  refine⟨by rw [e,Nat.pow_succ];omega,fun m' x' e'=> ?_⟩;have:=List.append_inj' e' rfl;obtain⟨rfl,h2⟩:=this;simp only [List.cons.injEq,and_true] at h2;subst h2;exact e
theorem bigN_snoc (l:List UInt8)(i:Nat)(hi:i<l.length)(hl:l.length≤8):bigN (l.take (i+1))=bigN (l.take i)*256+l[i].toNat:=by
 have hs:l.take (i+1)=l.take i++[l[i]]:=by rw [List.take_succ_eq_append_getElem hi]
 exact(bigN_lt (l.take (i+1)) (by rw [List.length_take];omega)).2 _ _ hs
theorem bigN_bd (l:List UInt8)(i:Nat)(hi:i<l.length)(hl:l.length≤8):bigN (l.take i)<72057594037927936:=by
 have h1:=(bigN_lt (l.take i) (by rw [List.length_take];omega)).1;have:(256:Nat)^(l.take i).length≤256^7:=Nat.pow_le_pow_right (by decide) (by rw [List.length_take];omega);have e:(256:Nat)^7=72057594037927936:=by decide
 omega
end InS
theorem u64_or8 {x y:Int} (hy₀:0≤y)(hy:y<256)(hx₀:0≤x)(hx:x<72057594037927936):bits .or .u64 (x*256) y=x*256+y:=
 bits_join .u64 64 (by decide) (fun n h0 h1=>by simp [IntKind.wrap,IntKind.bits,IntKind.signed];omega) 8 (x*256) y (by omega) (by omega) (by omega) hy₀ hy (by omega)
theorem Zes (s:InS)(k:Nat):(s.take k).1.length≤k:=by
 unfold InS.take;split
 · simp
 · split
   · simp
   · simp;omega
def BgRel (l:List UInt8)(n i:Value):Prop:=∃k:Nat,k≤l.length∧i= .int .i64 k∧n= .int .u64 (InS.bigN (l.take k):Int)
theorem ZcZ (K:Nat)(s:InS)(k:Nat)(hk:k≤8)(w:World)(h:InAt w K s):
 Calls Tryz.prog 71 #[.pointer (some ⟨K,0,none⟩),.int .i64 k] w (Zh K w (.int .u64 ((s.big k).1:Nat)) (s.big k).2):=by
 have hs:s.big k=(InS.bigN (s.take k).1,(s.take k).2):=by unfold InS.big;rw [Nat.min_eq_left hk]
 rw [hs];have ht:=fun w h=>Zdo K s k (by omega) (by omega) w h;rw [Int.toNat_natCast] at ht;unfold Zh at ht;have hl:=Zes s k;clear hs;generalize (s.take k).2=s2 at*;generalize hLL:(s.take k).1=L at*;generalize hP:Zh K w (.int .u64 ((InS.bigN L,s2).1:Nat)) (InS.bigN L,s2).2=P at*;have H:=Lib.hid h;have hw:=fun w=>ZkX k hk w;have hsz:=Zn L;clear h hLL;go_enter Tryz.func71,Tryz.ntmps71
 go_wp2_with (first|(go_at_call 45;refine(hw _).mono ?_;rintro e w1 ⟨rfl,rfl⟩)|(go_at_call 72;refine(ht _ H.out).mono ?_;rintro e w2 ⟨rfl,h2,hb2⟩))
 go_loop [6,7] (fun n i=>BgRel L n i) (fun _ i=>L.length - (intOf i).toNat)
 case atStart=>exact⟨0,Nat.zero_le _,rfl,rfl⟩
 case round=>
  obtain⟨i,hi,rfl,rfl⟩:=hrel;by_cases hlt:i<L.length
  · have hg:(B L)[i]'(by omega)=L[i]:=by simp [B];rfl
    have hsn:=InS.bigN_snoc L i hlt (by omega);have hbd:=InS.bigN_bd L i hlt (by omega);have hx:=L[i].toNat_lt;have hor:=u64_or8 (x:=(InS.bigN (L.take i):Int)) (y:=(L[i].toNat:Int)) (by omega) (by omega) (by omega) (by omega);have Hsn:=Lib.hid hsn;clear hsn;generalize InS.bigN (L.take i)=N at*;go_wp2_with fail
    go_round
    case rel=>exact⟨i+1,by omega,by go_num,by rw [Hsn.out];go_num⟩
    case measure=>simp [intOf];omega
  · have:L.take i=L:=List.take_of_length_le (by omega);go_wp2_with fail
    show P (.returned (.int .u64 (InS.bigN L:Int))) _
    rw [←hP];exact⟨rfl,h2,hb2⟩
end Go.Proofs.YtlhllehffkoloaaGreatDoor
namespace Go.Proofs.YtlhllehffkoloaaGreatDoor
open Go
structure Fr where
 id:List UInt8
 st:UInt8
 fm:UInt8
 grp:UInt8
 body:List UInt8
 at_:Nat
def ZA (v:Nat):Nat:=if v=2 then 3 else if v=3∨v=4 then 4 else 0
def ZU (v:Nat)(m:UInt8):Bool:=(v==3&&m&&&0xC0 !=0)||(v==4&&m&&&0x0C !=0)
def Zab (v:Nat)(m:UInt8):Bool:= !ZU v m&&((v==3&&m&&&0x20 !=0)||(v==4&&m&&&0x40 !=0))
def Zav (v:Nat)(m:UInt8):Bool:=v==4&& !ZU v m&&m&&&1 !=0
def ZaK (v:Nat)(m:UInt8):Bool:=v==4&& !ZU v m&&m&&&2 !=0
def ZaB:List UInt8→Nat
 |[]=>0
 |x::r=>if Zc2 x then ZaB r+1 else 0
theorem ZoB:∀l:List UInt8,l.all Zc2=true→ZaB l=l.length
 |[],_=>rfl
 |x::r,h=>by
  simp only [List.all_cons,Bool.and_eq_true] at h;simp [ZaB,h.1,ZoB r h.2]
def Ze (v:Nat)(f:Fr):List UInt8:=
 (if Zab v f.fm then [f.grp] else [])++((if Zav v f.fm then ZR f.body.length else [])++
  (if ZaK v f.fm then ZS f.body else f.body))
def ZO (v n:Nat):List UInt8:=if v=2 then Zal n 3 else if v=3 then Zal n 4 else ZR n
def Zag (v:Nat)(f:Fr):List UInt8:=if v=2 then [] else [f.st,f.fm]
def Zv (v:Nat)(f:Fr):List UInt8:=f.id++(ZO v (Ze v f).length++(Zag v f++Ze v f))
def ZbO (v:Nat)(f:Fr)(data:List UInt8)(k:Nat):Except (Nat×Nat) Fr:=
 if ZU v f.fm then .ok {f with body:=data} else
 let s:InS:=⟨data,0,k,0,0⟩
 let p:=if Zab v f.fm then s.big 1 else(f.grp.toNat,s)
 let q:=if Zav v f.fm then p.2.safe else(0,p.2)
 if q.2.e≠0 then .error (q.2.e,q.2.a) else
 let d:=q.2.rest.1
 let d:=if ZaK v f.fm then ZW false d else d
 if Zav v f.fm=true∧q.1≠d.length then .error (1,p.2.at_) else .ok {f with grp:=UInt8.ofNat p.1,body:=d}
def ZbV (v:Nat)(s:InS):Nat×InS:=if v=2 then s.big 3 else if v=3 then s.big 4 else s.safe
def Za2 (v:Nat)(s:InS)(sp:Bool):Option Fr×InS:=
 if ZA v=0∨s.e≠0∨s.left=0∨s.peek 1=[0] then(none,s) else
 let i:=s.take (ZA v)
 let s1:=if ZaB i.1<i.1.length then i.2.fail 1 (s.at_+ZaB i.1) else i.2
 let m:=ZbV v s1
 let g:=if 2<v then m.2.big 2 else(0,m.2)
 let fm:=UInt8.ofNat g.1|||(if v=4∧sp=true then 2 else 0)
 let f:Fr:=⟨i.1,UInt8.ofNat (g.1 / 256),fm,0,[],s.at_⟩
 let d:=g.2.take m.1
 if d.2.e≠0 then(none,d.2) else
 match ZbO v f d.1 g.2.at_ with
 | .error x=>(none,d.2.fail x.1 x.2)
 | .ok f=>(some f,d.2)
structure FrOk (v:Nat)(f:Fr):Prop where
 ver:v=2∨v=3∨v=4
 name:f.id.length=ZA v
 caps:f.id.all Zc2=true
 two:v=2→f.st=0∧f.fm=0
 grp:Zab v f.fm=false→f.grp=0
 many:(Ze v f).length<268435456
 many2:v=2→(Ze v f).length<16777216
theorem ZtF (v:Nat)(f:Fr)(h:ZU v f.fm=true):Ze v f=f.body:=by
 simp [Ze,Zab,Zav,ZaK,h]
theorem Zgu (b:Nat)(p r:List UInt8)(x:UInt8):(InS.mk' b p (x::r)).big 1=(x.toNat,InS.mk' b (p++[x]) r):=by
 have h:=InS.big_mk b p [x] r 1 rfl;have hx:=x.toNat_lt;have e:InS.bigN [x]=x.toNat:=by simp only [InS.bigN,List.foldl];omega
 rw [e] at h;exact h
theorem ZsF (v:Nat)(f:Fr)(k:Nat)(ok:FrOk v f)(b0:f.body.length<268435456)(b:List UInt8):
 ZbO v {f with grp:=0,body:=b} (Ze v f) k= .ok f:=by
 by_cases hl:ZU v f.fm=true
 · rw [ZtF v f hl];have hg:f.grp=0:=ok.grp (by simp [Zab,hl]);simp only [ZbO,hl,if_true];cases f;simp_all
 · have hl':ZU v f.fm=false:=by simpa using hl
   have hs:(if ZaK v f.fm then ZW false (if ZaK v f.fm then ZS f.body else f.body) else(if ZaK v f.fm then ZS f.body else f.body))=f.body:=by
    split
    · exact ZlN _
    · rfl
   have s0:(⟨Ze v f,0,k,0,0⟩:InS)=InS.mk' k [] (Ze v f):=rfl;simp only [ZbO,hl',s0,Bool.false_eq_true,if_false];by_cases hg:Zab v f.fm=true
   · by_cases hm:Zav v f.fm=true
     · simp only [Ze,hg,hm,if_true,List.cons_append,List.nil_append,Zgu,InS.safe_mk _ _ _ _ b0,InS.rest_mk];simp only [InS.mk',ne_eq,not_true_eq_false,if_false,hs,and_false,UInt8.ofNat_toNat]
     · have hm':Zav v f.fm=false:=by simpa using hm
       simp only [Ze,hg,hm',if_true,List.cons_append,List.nil_append,Zgu,Bool.false_eq_true,if_false,InS.rest_mk];simp only [InS.mk',ne_eq,not_true_eq_false,if_false,hs,false_and,UInt8.ofNat_toNat]
   · have hg':Zab v f.fm=false:=by simpa using hg
     have g0:=ok.grp hg';by_cases hm:Zav v f.fm=true
     · simp only [Ze,hg',hm,if_true,Bool.false_eq_true,if_false,List.nil_append,InS.safe_mk _ _ _ _ b0,InS.rest_mk];simp only [InS.mk',ne_eq,not_true_eq_false,if_false,hs,and_false];cases f;simp_all
     · have hm':Zav v f.fm=false:=by simpa using hm
       simp only [Ze,hg',hm',Bool.false_eq_true,if_false,List.nil_append,InS.rest_mk];simp only [InS.mk',ne_eq,not_true_eq_false,if_false,hs,false_and];cases f;simp_all
theorem Zlk (v:Nat)(f:Fr):f.body.length≤(Ze v f).length:=by
 have:=Zej f.body;simp only [Ze,List.length_append];split<;>split<;>split<;>simp<;>omega
theorem size_mk (v:Nat)(f:Fr)(ok:FrOk v f)(b:Nat)(p r:List UInt8):
 ZbV v (InS.mk' b p (ZO v (Ze v f).length++r))=((Ze v f).length,InS.mk' b (p++ZO v (Ze v f).length) r):=by
 have hm:=ok.many;rcases ok.ver with h|h|h
 · subst h;simp only [ZbV,ZO,if_true];rw [InS.big_mk _ _ _ _ 3 (by rw [ZdZ];rfl),bigB_3 _ (ok.many2 rfl)]
 · subst h;simp only [ZbV,ZO,if_true,(by decide:¬(3=2)),if_false];rw [InS.big_mk _ _ _ _ 4 (by rw [ZdZ];rfl),bigB_4 _ (by omega)]
 · subst h;simp only [ZbV,ZO,(by decide:¬(4=2)),(by decide:¬(4=3)),if_false];rw [InS.safe_mk _ _ _ _ hm]
theorem ZsK (x y:UInt8):InS.bigN [x,y]=x.toNat*256+y.toNat:=by
 have:=x.toNat_lt;have:=y.toNat_lt;simp only [InS.bigN,List.foldl];omega
theorem hi_of (x y:UInt8):UInt8.ofNat ((x.toNat*256+y.toNat) / 256)=x:=by
 have:=x.toNat_lt;have:=y.toNat_lt;rw [show(x.toNat*256+y.toNat) / 256=x.toNat by omega];simp
theorem lo_of (x y:UInt8):UInt8.ofNat (x.toNat*256+y.toNat)=y:=by
 apply UInt8.toNat_inj.mp
 have:=x.toNat_lt;have:=y.toNat_lt;rw [UInt8.toNat_ofNat'];omega
theorem ZtQ (v:Nat)(f:Fr)(ok:FrOk v f)(r:List UInt8):(f.id++r).take 1≠[0]∧0<(f.id++r).length:=by
 have hn:=ok.name;have hc:=ok.caps;have h0:ZA v≠0:=by rcases ok.ver with h|h|h<;>subst h<;>decide
 match hi:f.id with
 |[]=>rw [hi] at hn;exact absurd hn.symm h0
 |x::q=>
  rw [hi] at hc;simp only [List.all_cons,Bool.and_eq_true] at hc;refine⟨fun h=> ?_,by simp⟩;simp only [List.cons_append,List.take_succ_cons,List.take_zero,List.cons.injEq,and_true] at h;rw [h] at hc;exact absurd hc.1 (by decide)
theorem ZsR (v:Nat)(f:Fr)(ok:FrOk v f)(sp:Bool)(hs:v=4→sp=true→f.fm|||2=f.fm)(b:Nat)(p r:List UInt8):
 Za2 v (InS.mk' b p (Zv v f++r)) sp=(some {f with at_:=(InS.mk' b p (Zv v f++r)).at_},InS.mk' b (p++Zv v f) r):=by
 have nm:=ZtQ v f ok (ZO v (Ze v f).length++(Zag v f++Ze v f)++r);have h0:ZA v≠0:=by rcases ok.ver with h|h|h<;>subst h<;>decide
 have hp:Zv v f++r=f.id++(ZO v (Ze v f).length++(Zag v f++(Ze v f++r))):=by
  simp [Zv,List.append_assoc]
 have hq:f.id++(ZO v (Ze v f).length++(Zag v f++Ze v f)++r)=f.id++(ZO v (Ze v f).length++(Zag v f++(Ze v f++r))):=by
  simp [List.append_assoc]
 rw [hq] at nm;rw [hp];have c1:¬(ZA v=0∨(InS.mk' b p (f.id++(ZO v (Ze v f).length++(Zag v f++(Ze v f++r))))).e≠0∨
  (InS.mk' b p (f.id++(ZO v (Ze v f).length++(Zag v f++(Ze v f++r))))).left=0∨
  (InS.mk' b p (f.id++(ZO v (Ze v f).length++(Zag v f++(Ze v f++r))))).peek 1=[0]):=by
  rw [InS.left_mk,InS.peek_mk];rintro(h|h|h|h)
  · exact h0 h
  · exact h rfl
  · have:=nm.2;omega
  · exact nm.1 h
 simp only [Za2,if_neg c1];rw [InS.take_mk' _ _ _ _ _ ok.name];simp only [ZoB _ ok.caps,Nat.lt_irrefl,if_false];rw [size_mk v f ok];have fin:∀(fm:UInt8) (q:List UInt8),fm=f.fm→InS.mk' b (p++f.id++ZO v (Ze v f).length++Zag v f) (Ze v f++r)=InS.mk' b q (Ze v f++r)→
  q++Ze v f=p++Zv v f:=by
  intro fm q _ h;simp only [InS.mk',InS.mk.injEq] at h;have:=h.1;rw [List.append_cancel_right_eq] at this;rw [←this];simp [Zv,List.append_assoc]
 have tk:=InS.take_mk b (p++f.id++ZO v (Ze v f).length++Zag v f) (Ze v f) r;have fl:=ZsF v {f with at_:=(InS.mk' b p (f.id++(ZO v (Ze v f).length++(Zag v f++(Ze v f++r))))).at_}
  ((InS.mk' b (p++f.id++ZO v (Ze v f).length++Zag v f) (Ze v f++r)).at_)
  ⟨ok.ver,ok.name,ok.caps,ok.two,ok.grp,ok.many,ok.many2⟩ (by have:=Zlk v f;have:=ok.many;simp only;omega) []
 have e1:=fin f.fm _ rfl rfl;have inn:Ze v {f with at_:=(InS.mk' b p (f.id++(ZO v (Ze v f).length++(Zag v f++(Ze v f++r))))).at_}=Ze v f:=rfl;rw [inn] at fl;have ez:∀x y,(InS.mk' b x y).e=0:=fun _ _=>rfl;by_cases h2:2<v
 · have n2:v≠2:=by omega
   have hfl:Zag v f=[f.st,f.fm]:=by simp [Zag,n2]
   have hb:=InS.big_mk b (p++f.id++ZO v (Ze v f).length) (Zag v f) (Ze v f++r) 2 (by rw [hfl];rfl);simp only [if_pos h2];rw [hb];simp only [tk,ez,ne_eq,not_true_eq_false,if_false];rw [hfl,ZsK,hi_of,lo_of,←hfl];have hor:(f.fm|||if v=4∧sp=true then 2 else 0)=f.fm:=by
    split
    · rename_i h;exact hs h.1 h.2
    · simp
   rw [hor,fl,e1]
 · have e2:v=2:=by rcases ok.ver with h|h|h<;>omega
   have hfl:Zag v f=[]:=by simp [Zag,e2]
   have ht:=ok.two e2;simp only [if_neg h2];rw [hfl] at tk fl e1⊢;simp only [List.append_nil,List.nil_append] at tk fl e1⊢;simp only [tk,ez,ne_eq,not_true_eq_false,if_false];have hz:(UInt8.ofNat 0|||if v=4∧sp=true then 2 else 0)=(0:UInt8):=by
    rw [if_neg (by omega)];rfl
   rw [hz,show UInt8.ofNat (0 / 256)=(0:UInt8) from rfl];rw [ht.1,ht.2] at fl;rw [fl,e1];simp only [ht.1,ht.2]
structure Tg where
 v:Nat
 rev:UInt8
 fl:UInt8
 fs:List Fr
def ZL (fl:UInt8):Bool:=fl&&&0x80 !=0
def ZbX (v:Nat)(fl:UInt8):Bool:=v==4&&fl&&&0x10 !=0
def ZcU (v:Nat)(fl:UInt8):Bool:=v !=4&&ZL fl
def Zbl (v:Nat):UInt8:=if v=2 then 0xC0 else if v=3 then 0xE0 else if v=4 then 0xF0 else 0
def Zdp (v:Nat):UInt8:=if v=2 then 0x80 else if v=3 then 0xA0 else if v=4 then 0xB0 else 0
def ZcD (t:Tg):List UInt8:=(t.fs.map (Zv t.v)).flatten
def Z2 (t:Tg):List UInt8:=if ZcU t.v t.fl then ZS (ZcD t) else ZcD t
def Zel (t:Tg):List UInt8:=[UInt8.ofNat t.v,t.rev,t.fl]++ZR (Z2 t).length
def ZT:List UInt8:=[73,68,51]
def Za1:List UInt8:=[51,68,73]
def ZJ (t:Tg):List UInt8:=ZT++(Zel t++(Z2 t++(if ZbX t.v t.fl then Za1++Zel t else [])))
def Zcr (s:InS):(Nat×UInt8×UInt8)×InS:=
 let a:=(s.want ZT).2.big 1
 let b:=a.2.big 1
 let c:=b.2.big 1
 let v:=a.1
 let rev:=UInt8.ofNat b.1
 let fl:=UInt8.ofNat c.1
 if c.2.e≠0 then((0,0,0),c.2) else
 let s:=if ZA v=0 then c.2.fail 3 3 else c.2
 let s:=if rev=255 then s.fail 1 4 else s
 let s:=if fl&&& ~~~(Zbl v)≠0 then s.fail 1 5 else s
 let s:=if v=2∧fl&&&0x40≠0 then s.fail 3 5 else s
 ((v,rev,fl),s)
def ZcS (v:Nat)(fl:UInt8)(s:InS):InS:=
 if fl&&&0x40=0 then s else
 if v=3 then let n:=s.big 4;(n.2.take n.1).2 else
 let n:=s.safe
 let s2:=if n.1<6 then n.2.fail 1 s.at_ else n.2
 if n.1<4 then(if s2.e≠0 then s2 else s2.short) else(s2.take (n.1 - 4)).2
def Zau (v:Nat)(sp:Bool):Nat→InS→List Fr×InS
 |0,s=>match Za2 v s sp with
  |(none,s')=>([],s')
  |(some f,s')=>([],s'.fail 4 f.at_)
 |k+1,s=>match Za2 v s sp with
  |(none,s')=>([],s')
  |(some f,s')=>let p:=Zau v sp k s';(f::p.1,p.2)
def ZbB:List UInt8→Option Nat
 |[]=>none
 |x::r=>if x=0 then(ZbB r).map (· +1) else some 0
def ZcK (v:Nat)(sp:Bool)(s:InS):List Fr×InS:=
 let p:=Zau v sp 4096 s
 let q:=p.2.rest
 match ZbB q.1 with
 |none=>(p.1,q.2)
 |some i=>(p.1,q.2.fail 1 (p.2.at_+i))
def ZbU (file:List UInt8):Except (Nat×Nat) (Option Tg×List UInt8):=
 if file.take 3≠ZT then .ok (none,file) else
 let h:=Zcr ⟨file,0,0,0,0⟩
 let v:=h.1.1
 let rev:=h.1.2.1
 let fl:=h.1.2.2
 let n:=h.2.safe
 let b:=n.2.take n.1
 if b.2.e≠0 then .error (b.2.e,b.2.a) else
 let body:=if ZcU v fl then ZW false b.1 else b.1
 let l:=ZcK v (ZL fl) (ZcS v fl ⟨body,0,10,0,0⟩)
 if l.2.e≠0 then .error (l.2.e,l.2.a) else
 let r:=if ZbX v fl then(((b.2.want Za1).2).want ((file.take 10).drop 3)).2 else b.2
 if r.e≠0 then .error (r.e,r.a) else
 .ok (some ⟨v,rev,fl&&& ~~~0x40,l.1⟩,r.rest.1)
structure TgOk (t:Tg):Prop where
 ver:t.v=2∨t.v=3∨t.v=4
 rev:t.rev≠255
 fl:t.fl&&& ~~~(Zdp t.v)=0
 fs:∀f∈t.fs,FrOk t.v f∧(t.v=4→ZL t.fl=true→f.fm|||2=f.fm)
 count:t.fs.length≤4096
 many:(Z2 t).length<268435456
def clr (f:Fr):Fr:={f with at_:=0}
theorem Zuo (v:Nat)(sp:Bool)(b:Nat)(p:List UInt8):Za2 v (InS.mk' b p []) sp=(none,InS.mk' b p []):=by
 have h:ZA v=0∨(InS.mk' b p []).e≠0∨(InS.mk' b p []).left=0∨(InS.mk' b p []).peek 1=[0]:= .inr (.inr (.inl (by rw [InS.left_mk];rfl)));simp only [Za2,if_pos h]
theorem ZmO (v:Nat)(sp:Bool):∀(fs:List Fr) (k:Nat),fs.length≤k→
 (∀f∈fs,FrOk v f∧(v=4→sp=true→f.fm|||2=f.fm))→∀(b:Nat) (p:List UInt8),
 ∃l,Zau v sp k (InS.mk' b p (fs.map (Zv v)).flatten)=(l,InS.mk' b (p++(fs.map (Zv v)).flatten) [])∧l.map clr=fs.map clr
 |[],k,_,_,b,p=>by
  refine⟨[],?_,rfl⟩;simp only [List.map_nil,List.flatten_nil,List.append_nil];cases k<;>simp only [Zau,Zuo]
 |f::fs,0,hk,_,_,_=>absurd hk (by simp)
 |f::fs,k+1,hk,hok,b,p=>by
  have hf:=hok f (by simp);obtain⟨l,hl,hc⟩:=ZmO v sp fs k (by simpa using hk) (fun g hg=>hok g (by simp [hg])) b (p++Zv v f);simp only [List.map_cons,List.flatten_cons];refine⟨{f with at_:=(InS.mk' b p (Zv v f++(fs.map (Zv v)).flatten)).at_}::l,?_,?_⟩
  · simp only [Zau,ZsR v f hf.1 sp hf.2 b p,hl,List.append_assoc]
  · simp [hc,clr]
theorem ZsT (t:Tg)(ok:TgOk t)(b:Nat)(p:List UInt8):
 ∃l,ZcK t.v (ZL t.fl) (InS.mk' b p (ZcD t))=(l,InS.mk' b (p++ZcD t) [])∧l.map clr=t.fs.map clr:=by
 obtain⟨l,hl,hc⟩:=ZmO t.v (ZL t.fl) t.fs 4096 ok.count ok.fs b p;refine⟨l,?_,hc⟩;unfold ZcD;simp only [ZcK,hl,InS.rest_mk,ZbB,List.append_nil]
theorem Zru:∀n,n<256→∀v∈[2,3,4],(UInt8.ofNat n&&& ~~~(Zdp v))=0→
 (UInt8.ofNat n&&&0x40)=0∧(UInt8.ofNat n&&& ~~~(Zbl v))=0∧(UInt8.ofNat n&&& ~~~(0x40:UInt8))=UInt8.ofNat n:=by decide+kernel
theorem Zli (v:Nat)(x:UInt8)(hv:v=2∨v=3∨v=4)(h:x&&& ~~~(Zdp v)=0):
 x&&&0x40=0∧x&&& ~~~(Zbl v)=0∧x&&& ~~~(0x40:UInt8)=x:=by
 have:=Zru x.toNat x.toNat_lt v (by rcases hv with h|h|h<;>subst h<;>simp);rw [UInt8.ofNat_toNat] at this;exact this h
theorem Zs5 (t:Tg)(ok:TgOk t)(r:List UInt8):
 Zcr (InS.mk' 0 [] (ZT++(([UInt8.ofNat t.v,t.rev,t.fl]:List UInt8)++r)))=((t.v,t.rev,t.fl),InS.mk' 0 (ZT++[UInt8.ofNat t.v,t.rev,t.fl]) r):=by
 have bf:=Zli t.v t.fl ok.ver ok.fl;have hv:(UInt8.ofNat t.v).toNat=t.v:=by rw [UInt8.toNat_ofNat'];rcases ok.ver with h|h|h<;>omega
 have l0:ZA t.v≠0:=by rcases ok.ver with h|h|h<;>rw [h]<;>decide
 have ez:∀b x y,(InS.mk' b x y).e=0:=fun _ _ _=>rfl;simp only [Zcr,InS.want_mk,List.cons_append,List.nil_append,Zgu,ez,ne_eq,not_true_eq_false,if_false,hv,l0,
  UInt8.ofNat_toNat,ok.rev,bf.1,bf.2.1,and_false,List.append_assoc]
theorem ZvH (t:Tg)(ok:TgOk t)(r:List UInt8):
 ∃l,ZbU (ZJ t++r)= .ok (some ⟨t.v,t.rev,t.fl,l⟩,r)∧l.map clr=t.fs.map clr:=by
 obtain⟨l,hl,hc⟩:=ZsT t ok 10 [];refine⟨l,?_,hc⟩;have bf:=Zli t.v t.fl ok.ver ok.fl;have ez:∀b x y,(InS.mk' b x y).e=0:=fun _ _ _=>rfl;have hp:ZJ t++r=ZT++(([UInt8.ofNat t.v,t.rev,t.fl]:List UInt8)++(ZR (Z2 t).length++(Z2 t++((if ZbX t.v t.fl then Za1++Zel t else [])++r)))):=by
  simp [ZJ,Zel,List.append_assoc]
 have h3:(ZJ t++r).take 3=ZT:=by rw [hp];simp [ZT]
 have h10:((ZJ t++r).take 10).drop 3=Zel t:=by rw [hp];simp [ZT,Zel,ZR]
 have st:(⟨ZJ t++r,0,0,0,0⟩:InS)=InS.mk' 0 [] (ZJ t++r):=rfl;have bd:(if ZcU t.v t.fl then ZW false (Z2 t) else Z2 t)=ZcD t:=by
  unfold Z2;split
  · exact ZlN _
  · rfl
 have s10:(⟨ZcD t,0,10,0,0⟩:InS)=InS.mk' 10 [] (ZcD t):=rfl;simp only [ZbU,h3,h10,ne_eq,not_true_eq_false,if_false];rw [st,hp,Zs5 t ok];simp only [InS.safe_mk _ _ _ _ ok.many,InS.take_mk,ez,not_true_eq_false,if_false,bd,s10,ZcS,bf.1,if_true,hl,bf.2.2];by_cases hf:ZbX t.v t.fl=true
 · simp only [hf,if_true,List.append_assoc,InS.want_mk,ez,not_true_eq_false,if_false,InS.rest_mk]
 · have hf':ZbX t.v t.fl=false:=by simpa using hf
   simp only [hf',Bool.false_eq_true,if_false,List.nil_append,ez,not_true_eq_false,InS.rest_mk]
end Go.Proofs.YtlhllehffkoloaaGreatDoor
