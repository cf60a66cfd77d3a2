/- Lemmas for a statement on the tops; conditions: as each says. -/
import Derived.OwnWalk
import Derived.Lib.EndianBits
import Derived.Test.YtecandjkbbpooaaGreatDoorM3
set_option linter.unusedVariables false
set_option linter.unusedSimpArgs false
set_option maxRecDepth 100000
set_option maxHeartbeats 2000000
namespace Go.Proofs.YtecandjkbbpooaaGreatDoor
open Go
def Zc0 (x:UInt8)(r:List UInt8):Bool:=x==255&&(match r with|[]=>true|y::_=>y==0||decide (224≤y.toNat))
def ZR:List UInt8→List UInt8
 |[]=>[]
 |x::r=>if Zc0 x r then x::0::ZR r else x::ZR r
def ZaE:List UInt8→Nat
 |[]=>0
 |x::r=>(if Zc0 x r then 1 else 0)+ZaE r
def ZV:Bool→List UInt8→List UInt8
 |_,[]=>[]
 |f,x::r=>if x==0&&f then ZV false r else x::ZV (x==255) r
theorem Zdh:∀l,ZaE l≤l.length
 |[]=>Nat.le_refl _
 |x::r=>by have:=Zdh r;simp only [ZaE,List.length_cons];split<;>omega
theorem ZdX:∀l,(ZR l).length=l.length+ZaE l
 |[]=>rfl
 |x::r=>by have:=ZdX r;simp only [ZR,ZaE];split<;>simp only [List.length_cons]<;>omega
theorem ZhD:∀(f:Bool) (l:List UInt8),(f=true→l.head?≠some 0)→ZV f (ZR l)=l
 |_,[],_=>rfl
 |f,x::r,h=>by
  have hx:(x==0&&f)=false:=by
   cases f
   · simp
   · simpa using h rfl
  by_cases hl:Zc0 x r=true
  · have h255:(x==255)=true:=by simp only [Zc0,Bool.and_eq_true] at hl;exact hl.1
    simp [ZR,hl,ZV,hx,h255,ZhD false r (by intro h;cases h)]
  · have hl':Zc0 x r=false:=by simpa using hl
    simp only [ZR,hl',ZV,hx,if_false,Bool.false_eq_true];rw [ZhD (x==255) r];intro hf hr
    match r,hr with
    |y::q,hr=>
     simp only [List.head?_cons,Option.some.injEq] at hr;simp [Zc0,hf,hr] at hl'
theorem Zkw (l:List UInt8):ZV false (ZR l)=l:=ZhD false l (by intro h;cases h)
def looksAt (l:List UInt8)(i:Nat):Bool:=match l.drop i with|[]=>false|x::r=>Zc0 x r
theorem ZsJ (l:List UInt8)(i:Nat)(h:i<l.length):
 ZR (l.drop i)=(if looksAt l i then [l[i],0] else [l[i]])++ZR (l.drop (i+1)):=by
 rw [List.drop_eq_getElem_cons h];simp only [ZR,looksAt,List.drop_eq_getElem_cons h];split<;>rfl
theorem ZqB (l:List UInt8)(i:Nat)(h:i<l.length):
 ZaE (l.drop i)=(if looksAt l i then 1 else 0)+ZaE (l.drop (i+1)):=by
 rw [List.drop_eq_getElem_cons h];simp only [ZaE,looksAt,List.drop_eq_getElem_cons h]
theorem Zqg (f:Bool)(l:List UInt8)(i:Nat)(h:i<l.length):
 ZV f (l.drop i)=if l[i]==0&&f then ZV false (l.drop (i+1)) else l[i]::ZV (l[i]==255) (l.drop (i+1)):=by
 rw [List.drop_eq_getElem_cons h];simp only [ZV]
def ZO (n:Nat):List UInt8:=[UInt8.ofNat (n / 2097152 % 128),UInt8.ofNat (n / 16384 % 128),UInt8.ofNat (n / 128 % 128),UInt8.ofNat (n % 128)]
def Za1 (l:List UInt8):Nat:=l.foldl (fun n x=>n*128+x.toNat) 0
theorem Zta (n:Nat):(ZO n).all (fun x=>decide (x.toNat<128))=true:=by
 have h:∀m,m % 128 % 256<128:=fun m=>by omega
 simp [ZO,UInt8.toNat_ofNat',h]
theorem Ztc (n:Nat)(h:n<268435456):Za1 (ZO n)=n:=by
 simp only [Za1,ZO,List.foldl,UInt8.toNat_ofNat'];omega
structure InS where
 t:List UInt8
 n:Nat
 base:Nat
 e:Nat
 a:Nat
def Zgn:Nat:=9223372036854775807
namespace InS
def place (s:InS)(k:Nat):Nat:=if k>Zgn - s.base then Zgn else s.base+k
def fail (s:InS)(e a:Nat):InS:=if s.e=0∧e≠0 then{s with e:=e,a:=a} else s
def short (s:InS):InS:=s.fail 1 (s.place s.t.length)
def left (s:InS):Nat:=if s.e=0 then s.t.length - s.n else 0
def at_ (s:InS):Nat:=s.place s.n
def take (s:InS)(k:Nat):List UInt8×InS:=
 if s.e≠0 then([],s) else if s.t.length - s.n<k then([],s.short)
 else((s.t.drop s.n).take k,{s with n:=s.n+k})
def rest (s:InS):List UInt8×InS:=s.take s.left
def peek (s:InS)(k:Nat):List UInt8:=if s.e≠0 then [] else(s.t.drop s.n).take k
def bigN (l:List UInt8):Nat:=l.foldl (fun n x=>(n*256+x.toNat) % 18446744073709551616) 0
def big (s:InS)(w:Nat):Nat×InS:=let p:=s.take (min w 8);(bigN p.1,p.2)
def high:List UInt8→Option Nat
 |[]=>none
 |x::r=>if 128≤x.toNat then some 0 else(high r).map (· +1)
def safe (s:InS):Nat×InS:=
 let p:=s.take 4
 match high p.1 with
 |some i=>(0,p.2.fail 1 (p.2.place (p.2.n - p.1.length+i)))
 |none=>(Za1 p.1,p.2)
def differ:List UInt8→List UInt8→Option Nat
 |x::r,y::q=>if x=y then(differ r q).map (· +1) else some 0
 |_,_=>none
def want (s:InS)(w:List UInt8):Bool×InS:=
 if s.e≠0 then(false,s) else
 match differ w (s.t.drop s.n) with
 |some i=>(false,s.fail 1 (s.place (s.n+i)))
 |none=>if s.t.length - s.n<w.length then(false,s.short) else(true,{s with n:=s.n+w.length})
def mk' (base:Nat)(p r:List UInt8):InS:=⟨p++r,p.length,base,0,0⟩
theorem left_mk (b:Nat)(p r:List UInt8):(mk' b p r).left=r.length:=by simp [left,mk']
theorem take_mk (b:Nat)(p x r:List UInt8):(mk' b p (x++r)).take x.length=(x,mk' b (p++x) r):=by
 have h:¬x.length+r.length<x.length:=by omega
 simp [take,mk',List.append_assoc,h]
theorem take_mk' (b:Nat)(p x r:List UInt8)(k:Nat)(h:x.length=k):(mk' b p (x++r)).take k=(x,mk' b (p++x) r):=by
 rw [←h,take_mk]
theorem rest_mk (b:Nat)(p r:List UInt8):(mk' b p r).rest=(r,mk' b (p++r) []):=by
 have:=take_mk b p r [];simp only [List.append_nil] at this;rw [rest,left_mk,this]
theorem peek_mk (b:Nat)(p r:List UInt8)(k:Nat):(mk' b p r).peek k=r.take k:=by simp [peek,mk']
theorem big_mk (b:Nat)(p x r:List UInt8)(w:Nat)(h:x.length=min w 8):
 (mk' b p (x++r)).big w=(bigN x,mk' b (p++x) r):=by
 simp [big,take_mk' b p x r _ h]
theorem high_none:∀l:List UInt8,l.all (fun x=>decide (x.toNat<128))=true→high l=none
 |[],_=>rfl
 |x::r,h=>by
  simp only [List.all_cons,Bool.and_eq_true,decide_eq_true_eq] at h;have hx:¬128≤x.toNat:=by omega
  simp [high,hx,high_none r h.2]
theorem safe_mk (b:Nat)(p r:List UInt8)(k:Nat)(h:k<268435456):
 (mk' b p (ZO k++r)).safe=(k,mk' b (p++ZO k) r):=by
 simp [safe,take_mk' b p (ZO k) r 4 rfl,high_none _ (Zta k),Ztc k h]
theorem differ_same:∀w r:List UInt8,differ w (w++r)=none
 |[],_=>by simp [differ]
 |x::w,r=>by simp [differ,differ_same w r]
theorem want_mk (b:Nat)(p w r:List UInt8):(mk' b p (w++r)).want w=(true,mk' b (p++w) r):=by
 simp [want,mk',differ_same,List.append_assoc]
end InS
def Zah (n:Nat):Nat→List UInt8
 |0=>[]
 |w+1=>UInt8.ofNat (n / 256^w % 256)::Zah n w
theorem ZdK (n:Nat):∀w,(Zah n w).length=w
 |0=>rfl
 |w+1=>by simp [Zah,ZdK n w]
theorem bigB_3 (n:Nat)(h:n<16777216):InS.bigN (Zah n 3)=n:=by
 simp only [InS.bigN,Zah,List.foldl,UInt8.toNat_ofNat',Nat.pow_zero,Nat.div_one];omega
theorem bigB_4 (n:Nat)(h:n<4294967296):InS.bigN (Zah n 4)=n:=by
 simp only [InS.bigN,Zah,List.foldl,UInt8.toNat_ofNat',Nat.pow_zero,Nat.div_one];omega
end Go.Proofs.YtecandjkbbpooaaGreatDoor
namespace Go.Proofs.YtecandjkbbpooaaGreatDoor
open Go Go.RowKit
theorem ZeI {w:World} {k j g:Nat} (h:g≠k)(v:Value):(w.setCell ⟨k,j,none⟩ v).heap[g]? =w.heap[g]?:=heap_setCell_other w ⟨k,j,none⟩ g v h
def five (s:InS):Array Value:=#[.string (B s.t),.int .i64 s.n,.int .i64 s.base,.int .i64 s.e,.int .i64 s.a]
structure InAt (w:World)(K:Nat)(s:InS):Prop where
 row:w.heap[K]? =some (.cells (five s) 176 (0,0))
 fits:s.n≤s.t.length
 room:s.base+s.t.length≤1000000000
section
variable {w w':World} {K:Nat} {s:InS}
theorem InAt.len (h:InAt w K s):s.t.length≤1000000000:=by have:=h.room;omega
theorem InAt.base (h:InAt w K s):s.base≤1000000000:=by have:=h.room;omega
theorem InAt.lt (h:InAt w K s):K<w.heap.size:=(Array.getElem?_eq_some_iff.1 h.row).1
theorem InAt.get (h:InAt w K s):w.cell? ⟨K,0,none⟩=some (.string (B s.t))∧w.cell? ⟨K,1,none⟩=some (.int .i64 s.n)∧w.cell? ⟨K,2,none⟩=some (.int .i64 s.base)∧w.cell? ⟨K,3,none⟩=some (.int .i64 s.e)∧w.cell? ⟨K,4,none⟩=some (.int .i64 s.a):=by
 refine⟨?_,?_,?_,?_,?_⟩<;>(rw [cell_of_row _ K _ _ _ (0,0) h.row];rfl)
theorem InAt.free (h:InAt w K s)(j:Nat):w.frozen? ⟨K,j,none⟩=false:=frozen_of_row _ K j _ _ h.row
theorem InAt.same (h:InAt w K s)(e:w'.heap[K]? =w.heap[K]?):InAt w' K s:=⟨e.trans h.row,h.fits,h.room⟩
theorem InAt.below (h:InAt w K s)(hb:Below w.heap.size w w'):InAt w' K s:=h.same (hb.block K h.lt)
theorem InAt.alloc (h:InAt w K s)(o:Obj):InAt (w.alloc o) K s:=h.below ((Below.refl _ _).alloc (Nat.le_refl _) _)
theorem InAt.but {C:Nat} (h:InAt w K s)(hb:But C w.heap.size w w')(hC:K≠C):InAt w' K s:=h.same (hb.block K h.lt hC)
theorem InAt.drewN (h:InAt w K s)(n:Nat):InAt (w.drewN n) K s:=h.same rfl
theorem InAt.set (h:InAt w K s){g:Nat} (hg:K≠g)(j:Nat)(v:Value):InAt (w.setCell ⟨g,j,none⟩ v) K s:=h.same (ZeI hg v)
theorem InAt.next (h:InAt w K s)(n:Nat)(hn:n≤s.t.length):InAt (w.setCell ⟨K,1,none⟩ (.int .i64 n)) K {s with n:=n}:=
 ⟨by rw [heap_setCell_same w K 1 _ _ _ h.row];rfl,hn,h.room⟩
theorem InAt.wrong (h:InAt w K s)(e a:Nat):InAt ((w.setCell ⟨K,3,none⟩ (.int .i64 e)).setCell ⟨K,4,none⟩ (.int .i64 a)) K {s with e:=e,a:=a}:=by
 have h1:=heap_setCell_same w K 3 _ _ (.int .i64 e) h.row;exact⟨by rw [heap_setCell_same _ K 4 _ _ _ h1];rfl,h.fits,h.room⟩
end
theorem Zdp (s:InS)(k:Nat)(hb:s.base≤1000000000)(hk:k≤1000000000):s.place k=s.base+k:=by
 unfold InS.place Zgn;rw [if_neg (by omega)]
def Zf (K:Nat)(w:World)(v:Value)(s:InS)(e:Ending)(w':World):Prop:=e= .returned v∧InAt w' K s∧But K w.heap.size w w'
theorem Zb0 (K:Nat)(s:InS)(w:World)(h:InAt w K s):
 Calls Tryz.prog 55 #[.pointer (some ⟨K,0,none⟩)] w fun e w'=>e= .returned (.int .i64 s.at_)∧w=w':=by
 have hp:=Zdp s s.n h.base (by have:=h.fits;have:=h.len;omega);obtain⟨c0,c1,c2,c3,c4⟩:=h.get;have h1:=h.fits;have h2:=h.len;have h3:=h.base;clear h;obtain⟨t,n,b,e,a⟩:=s;simp only at c0 c1 c2 c3 c4 h1 h2 h3;have HP:=Lib.hid hp;clear hp;go_enter Tryz.func55,Tryz.ntmps55
 go_wp2_with go_in
 go_ret
 exact⟨ZbU (by rw [InS.at_,HP.out];simp),rfl⟩
def u8V (c:UInt8):Value:= .int .u8 c.toNat
theorem Zt1 (l:List UInt8):l.map u8V=(l.map fun c:UInt8=>(c.toNat:Int)).map (Value.int .u8):=by
 rw [List.map_map];rfl
theorem Ztu (l:List UInt8):strOfNums (l.map fun c:UInt8=>(c.toNat:Int))=B l:=by
 unfold strOfNums B;congr 1
 rw [List.map_map];congr 1
 conv=>rhs;rw [←List.map_id l]
 exact List.map_congr_left fun c _=>by simp
theorem Zd5:(Tryz.prog.info? 5).map (fun i=>(i.zero,i.size,i.bytes))=some (some (.int .u8 0),1,1):=by kernel_rfl
theorem Ze6 (w:World){base:Nat} {v:Value} {n:Nat} {l:List UInt8} (h:w.ownsRow base 5 1 v n (l.map u8V)):
 (convert 150 9 v).run Tryz.prog w= .ok (.string (B l)) w:=by
 rw [Zt1] at h;have:=ZdO (P:=Tryz.prog) 150 9 5 Tryz.underlying150 Tryz.underlying5 Tryz.underlying9 w h;rw [Ztu] at this;exact this
theorem Zt3 (w:World)(q:Value)(T:TypeId):∀j u,[q][j]? =some u→(w.alloc (.cells #[q] T)).cell? ((⟨w.heap.size,0,none⟩:Addr).add j)=some u:=by
 intro j u hu;have hadd:(⟨w.heap.size,0,none⟩:Addr).add j=⟨w.heap.size,j,none⟩:=by unfold Addr.add;split<;>simp_all
 rw [hadd,cell_of_row _ w.heap.size j _ T (0,0) (heap_alloc_new w _)];simpa using hu
section
variable {ops:Array Oper} {rest:List Oper} {o:Oper} {a:Act} {Q:Exit→Act→World→Prop}
theorem ZdJ (hgd:o.guard=none)(s x:Operand)(ho:o.op= .call {callee:= .builtin .append,args:=#[s,x],argTypes:=#[150,150]}) (base:Nat) (v:Value) (l:List UInt8) (hs:a.eval s=v) (W:World) (y:UInt8) (q:Value) (hq:q=u8V y)
 (hown:W.ownsRow base 5 1 v l.length (l.map u8V)) (hbase:base≤W.heap.size) (hlen:l.length≤35184372080000) (hx:a.eval x= .slice (some ⟨W.heap.size,0,none⟩) 1 1)
 (h:∀v' w',Hid (w'.ownsRow base 5 1 v' (l++[y]).length ((l++[y]).map u8V))→Below base W w'→wpList Tryz.prog ops Q rest (a.put o.dst v') w'):
 wpList Tryz.prog ops Q (o::rest) a (W.alloc (.cells #[q] 5)):=by
 obtain⟨i0,hi,iz0,iz1,iz2⟩:=info_parts Zd5;subst hq;refine wpList_append_own _ hgd s x 150 ho base 5 i0 _ 1 1 Tryz.underlying150 hi iz0 iz1 iz2 rfl (by decide) v l.length _ hs (hown.alloc _) ⟨W.heap.size,0,none⟩ 1 1 [u8V y] hx rfl (Zt3 W _ _) ?_ (by unfold maxLen;omega) (by omega) (by simp;omega) ?_
 · intro u hu;simp only [List.mem_singleton] at hu;subst hu;rfl
 · intro v6 w6 hown6 hg6 _;refine h v6 w6 (Lib.hid ?_) (Zaa ((Below.refl _ W).alloc hbase _) (hown.alloc _) hg6 (by simp;omega) (Nat.le_refl _));rw [List.length_append,List.map_append];exact hown6
end
theorem InAt.wrongZ {w:World} {K:Nat} {s:InS} (h:InAt w K s)(e a:Int)(he:0≤e)(ha:0≤a):InAt ((w.setCell ⟨K,3,none⟩ (.int .i64 e)).setCell ⟨K,4,none⟩ (.int .i64 a)) K {s with e:=e.toNat,a:=a.toNat}:=by
 have:=h.wrong e.toNat a.toNat
 rwa [Int.toNat_of_nonneg he,Int.toNat_of_nonneg ha] at this
theorem InAt.nextZ {w:World} {K:Nat} {s:InS} (h:InAt w K s)(n:Nat)(z:Int)(hz:z=n)(hn:n≤s.t.length):InAt (w.setCell ⟨K,1,none⟩ (.int .i64 z)) K {s with n:=n}:=by
 subst hz;exact h.next n hn
theorem ZT (e a:Int)(h:e=0)(w:World):
 Calls Tryz.prog 7 #[.agg #[.int .i64 e,.int .i64 a]] w fun e w'=>e= .returned (.bool false)∧Below w.heap.size w w':=by
 subst h;go_enter Tryz.func7,Tryz.ntmps7
 go_wp2_with fail
 go_ret
 exact⟨rfl,(Below.refl _ w).alloc (Nat.le_refl _) _⟩
theorem Zaq (e a:Int)(h:e≠0)(w:World):
 Calls Tryz.prog 7 #[.agg #[.int .i64 e,.int .i64 a]] w fun e w'=>e= .returned (.bool true)∧Below w.heap.size w w':=by
 have h1:(e==0)=false:=by simpa using h
 have h2:(e !=0)=true:=by simpa using h
 go_enter Tryz.func7,Tryz.ntmps7
 go_wp2_with fail
 go_ret
 exact⟨rfl,(Below.refl _ w).alloc (Nat.le_refl _) _⟩
theorem Zde (K:Nat)(s:InS)(w:World)(h:InAt w K s)(he:s.e=0):
 Calls Tryz.prog 114 #[.pointer (some ⟨K,0,none⟩)] w fun e w'=>e= .returned (.bool true)∧Below w.heap.size w w':=by
 obtain⟨c0,c1,c2,c3,c4⟩:=h.get;rw [he] at c3;have hb:=fun w=>ZT ((0:Nat):Int) s.a rfl w;clear h he c0 c1 c2;go_enter Tryz.func114,Tryz.ntmps114
 go_wp2_with (go_at_call 7;refine(hb _).mono ?_;rintro e w1 ⟨rfl,hb1⟩)
 go_ret
 exact⟨rfl,hb1⟩
theorem Zdd (K:Nat)(s:InS)(w:World)(h:InAt w K s)(he:s.e≠0):
 Calls Tryz.prog 114 #[.pointer (some ⟨K,0,none⟩)] w fun e w'=>e= .returned (.bool false)∧Below w.heap.size w w':=by
 obtain⟨c0,c1,c2,c3,c4⟩:=h.get;have hb:=fun w=>Zaq (s.e:Int) s.a (by omega) w;clear h he c0 c1 c2;go_enter Tryz.func114,Tryz.ntmps114
 go_wp2_with (go_at_call 7;refine(hb _).mono ?_;rintro e w1 ⟨rfl,hb1⟩)
 go_ret
 exact⟨rfl,hb1⟩
theorem Zg6 (K:Nat)(s:InS)(z:Int)(h0:0≤z)(h1:z≤1000000000)(w:World)(h:InAt w K s):
 Calls Tryz.prog 115 #[.pointer (some ⟨K,0,none⟩),.int .i64 z] w fun e w'=>e= .returned (.int .i64 (s.base+z))∧w=w':=by
 obtain⟨c0,c1,c2,c3,c4⟩:=h.get;have hb:=h.base;clear h c0 c1 c3 c4;go_enter Tryz.func115,Tryz.ntmps115
 go_wp2_with fail
 go_ret
 exact⟨rfl,rfl⟩
theorem Za5 (K:Nat)(s:InS)(e z:Int)(he:0<e)(hz:0≤z)(w:World)(h:InAt w K s):
 Calls Tryz.prog 110 #[.pointer (some ⟨K,0,none⟩),.int .i64 e,.int .i64 z] w (Zf K w (.tuple #[]) (s.fail e.toNat z.toNat)):=by
 generalize hP:Zf K w (.tuple #[]) (s.fail e.toNat z.toNat)=P at*;have H:=Lib.hid h;by_cases h0:s.e=0
 · have hr:=fun w h=>Zde K s w h h0;have hs:s.fail e.toNat z.toNat={s with e:=e.toNat,a:=z.toNat}:=by
    unfold InS.fail;rw [if_pos ⟨h0,by omega⟩]
   have h1:(e==0)=false:=by rw [beq_eq_false_iff_ne];omega
   have h2:(e !=0)=true:=by simp;omega
   have Hs:=Lib.hid hs;obtain⟨c0,c1,c2,c3,c4⟩:=h.get;have f3:=h.free 3;have f4:=h.free 4;have hlt:=h.lt;clear hs h h0;go_enter Tryz.func110,Tryz.ntmps110
   go_wp2_with (go_at_call 114;refine(hr _ H.out).mono ?_;rintro e w1 ⟨rfl,hb1⟩;obtain⟨hc,hf⟩:=Zb2 hb1)
   go_end0
   rw [←hP,Hs.out];exact⟨rfl,(H.out.below hb1).wrongZ _ _ (by omega) hz,((But.of hb1).setCell (p:=⟨K,3,none⟩) (.inr rfl) _).setCell (p:=⟨K,4,none⟩) (.inr rfl) _⟩
 · have hr:=fun w h=>Zdd K s w h h0;have hs:s.fail e.toNat z.toNat=s:=by unfold InS.fail;rw [if_neg (fun h=>h0 h.1)]
   have Hs:=Lib.hid hs;clear hs h h0;go_enter Tryz.func110,Tryz.ntmps110
   go_wp2_with (go_at_call 114;refine(hr _ H.out).mono ?_;rintro e w1 ⟨rfl,hb1⟩)
   go_end0
   rw [←hP,Hs.out];exact⟨rfl,H.out.below hb1,.of hb1⟩
theorem Ze1 (K:Nat)(s:InS)(w:World)(h:InAt w K s):
 Calls Tryz.prog 116 #[.pointer (some ⟨K,0,none⟩)] w (Zf K w (.tuple #[]) s.short):=by
 have hf:=fun w h=>Za5 K s 1 (s.base+(s.t.length:Int)) (by decide) (by omega) w h;have hs:s.fail (1:Int).toNat ((s.base:Int)+(s.t.length:Int)).toNat=s.short:=by
  rw [InS.short,Zdp s _ h.base h.len];congr 1
 rw [hs] at hf;unfold Zf at hf;generalize hP:Zf K w (.tuple #[]) s.short=P at*;obtain⟨c0,c1,c2,c3,c4⟩:=h.get;have hl:=h.len;have hp:=fun w h=>Zg6 K s s.t.length (by omega) (by omega) w h;have hsz:=Zl s.t;have H:=Lib.hid h;clear h hs c1 c2 c3 c4;go_enter Tryz.func116,Tryz.ntmps116
 go_wp2_with (first|(go_at_call 115;refine(hp _ H.out).mono ?_;rintro e w1 ⟨rfl,rfl⟩)|(go_at_call 110;refine(hf _ H.out).mono ?_;rintro e w1 ⟨rfl,h1,hb1⟩))
 go_end0
 rw [←hP];exact⟨rfl,h1,hb1⟩
theorem Zcp (K:Nat)(s:InS)(w:World)(h:InAt w K s):
 Calls Tryz.prog 53 #[.pointer (some ⟨K,0,none⟩)] w fun e w'=>e= .returned (.agg #[.int .i64 s.e,.int .i64 s.a])∧Below w.heap.size w w':=by
 obtain⟨c0,c1,c2,c3,c4⟩:=h.get;have hlt:=h.lt;clear h c0 c1 c2;go_enter Tryz.func53,Tryz.ntmps53
 go_wp2_with fail
 refine bodyPost_ret (v:= .agg #[.int .i64 s.e,.int .i64 s.a]) (by simp [results,Tryz.results53,go_sem]) rfl ?_;exact⟨rfl,(Below.refl _ w).alloc (Nat.le_refl _) _⟩
theorem Zg0 (K:Nat)(s:InS)(w:World)(h:InAt w K s):
 Calls Tryz.prog 121 #[.pointer (some ⟨K,0,none⟩)] w fun e w'=>e= .returned (.int .i64 s.left)∧Below w.heap.size w w':=by
 have H:=Lib.hid h;by_cases h0:s.e=0
 · have hr:=fun w h=>Zde K s w h h0;have hs:((s.left:Nat):Int)=(s.t.length:Int) - s.n:=by
    unfold InS.left;rw [if_pos h0];have:=h.fits;omega
   have Hs:=Lib.hid hs;obtain⟨c0,c1,c2,c3,c4⟩:=h.get;have hlt:=h.lt;have hfi:=h.fits;have hle:=h.len;have hsz:=Zl s.t;clear hs h h0 c2 c3 c4;go_enter Tryz.func121,Tryz.ntmps121
   go_wp2_with (go_at_call 114;refine(hr _ H.out).mono ?_;rintro e w1 ⟨rfl,hb1⟩;obtain⟨hc,hf⟩:=Zb2 hb1)
   go_quiet (fail)
   go_wp2_with fail
   go_ret
   exact⟨ZbU Hs.out.symm,below_drewN hb1 _⟩
 · have hr:=fun w h=>Zdd K s w h h0;have hs:s.left=0:=by unfold InS.left;rw [if_neg h0]
   have Hs:=Lib.hid hs;clear hs h h0;go_enter Tryz.func121,Tryz.ntmps121
   go_wp2_with (go_at_call 114;refine(hr _ H.out).mono ?_;rintro e w1 ⟨rfl,hb1⟩)
   go_ret
   exact⟨ZbU (by rw [Hs.out];rfl),hb1⟩
theorem Zjd (t:List UInt8)(z:Int)(h0:0≤z)(h1:z+t.length≤1000000000)(w:World):
 Calls Tryz.prog 59 #[.string (B t),.int .i64 z] w fun e w'=>e= .returned (.pointer (some ⟨w.heap.size,0,none⟩))∧InAt w' w.heap.size ⟨t,0,z.toNat,0,0⟩∧Below w.heap.size w w'∧w'.heap.size=w.heap.size+1:=by
 have hz:(max z 0)=z:=by omega
 have HZ:=Lib.hid (Int.toNat_of_nonneg h0);go_enter Tryz.func59,Tryz.ntmps59
 go_wp2_with fail
 go_ret
 refine⟨rfl,⟨?_,Nat.zero_le _,by simp only;omega⟩,(Below.refl _ w).alloc (Nat.le_refl _) _,by simp⟩;rw [heap_alloc_new];simp only [five,HZ.out];rfl
theorem Zjv (t:List UInt8)(ht:t.length≤1000000000)(w:World):
 Calls Tryz.prog 50 #[.string (B t)] w fun e w'=>e= .returned (.pointer (some ⟨w.heap.size,0,none⟩))∧InAt w' w.heap.size ⟨t,0,0,0,0⟩∧Below w.heap.size w w'∧w'.heap.size=w.heap.size+1:=by
 have hi:=Zjd t 0 (by decide) (by omega);go_enter Tryz.func50,Tryz.ntmps50
 go_wp2_with (go_at_call 59;refine(hi _).mono ?_;rintro e w1 ⟨rfl,h1,hb1,hz1⟩)
 go_ret
 exact⟨rfl,h1,hb1,hz1⟩
theorem ZcP (K:Nat)(s:InS)(z:Int)(hz:0≤z)(hz2:z≤9223372036854775807)(w:World)(h:InAt w K s):
 Calls Tryz.prog 57 #[.pointer (some ⟨K,0,none⟩),.int .i64 z] w (Zf K w (.string (B (s.take z.toNat).1)) (s.take z.toNat).2):=by
 obtain⟨k,rfl⟩:∃k:Nat,z=k:=⟨z.toNat,by omega⟩
 rw [Int.toNat_natCast];generalize hP:Zf K w (.string (B (s.take k).1)) (s.take k).2=P at*;have H:=Lib.hid h;by_cases h0:s.e=0
 · have hr:=fun w h=>Zde K s w h h0;by_cases hk:s.t.length - s.n<k
   · have hs:s.take k=([],s.short):=by unfold InS.take;rw [if_neg (by omega),if_pos hk]
     have Hs:=Lib.hid hs;have hsh:=fun w h=>Ze1 K s w h;unfold Zf at hsh;obtain⟨c0,c1,c2,c3,c4⟩:=h.get;have hlt:=h.lt;have hfi:=h.fits;have hle:=h.len;have hsz:=Zl s.t;have hd:decide ((k:Int)<0)=false:=by simp
     clear hs h h0 c2 c3 c4 hz;go_enter Tryz.func57,Tryz.ntmps57
     go_wp2_with (go_at_call 114;refine(hr _ H.out).mono ?_;rintro e w1 ⟨rfl,hb1⟩;obtain⟨hc,hf⟩:=Zb2 hb1)
     go_quiet (fail)
     go_wp2_with (go_at_call 116;refine(hsh _ ((H.out.below hb1).drewN _)).mono ?_;rintro e w2 ⟨rfl,h2,hb2⟩)
     show P (.returned (.string ⟨#[]⟩)) _
     rw [←hP,Hs.out];exact⟨rfl,h2,(But.of (below_drewN hb1 _)).trans (hb2.mono hb1.size)⟩
   · have hs:s.take k=((s.t.drop s.n).take k,{s with n:=s.n+k}):=by unfold InS.take;rw [if_neg (by omega),if_neg hk]
     have Hs:=Lib.hid hs;obtain⟨c0,c1,c2,c3,c4⟩:=h.get;have f1:=h.free 1;have hlt:=h.lt;have hfi:=h.fits;have hle:=h.len;have hsz:=Zl s.t;have hd:decide ((k:Int)<0)=false:=by simp
     have hd2:decide ((k:Int)>(s.t.length:Int) - s.n)=false:=by rw [decide_eq_false_iff_not];omega
     have he:(B s.t).extract s.n (s.n+k)=B ((s.t.drop s.n).take k):=by rw [ZcJ];congr 2;omega
     have He:=Lib.hid he;clear hs h h0 c2 c3 c4 hz he;go_enter Tryz.func57,Tryz.ntmps57
     go_wp2_with (go_at_call 114;refine(hr _ H.out).mono ?_;rintro e w1 ⟨rfl,hb1⟩;obtain⟨hc,hf⟩:=Zb2 hb1)
     go_quiet (fail)
     go_wp2_with fail
     go_quiet (fail)
     go_wp2_with fail
     show P (.returned (.string ((B s.t).extract s.n (s.n+k)))) _
     rw [He.out,←hP,Hs.out];exact⟨rfl,((H.out.below hb1).drewN _).nextZ (s.n+k) ((s.n:Int)+k) (by omega) (by omega),((But.of (below_drewN hb1 _))).setCell (p:=⟨K,1,none⟩) (.inr rfl) _⟩
 · have hr:=fun w h=>Zdd K s w h h0;have hs:s.take k=([],s):=by unfold InS.take;rw [if_pos h0]
   have Hs:=Lib.hid hs;clear hs h h0;go_enter Tryz.func57,Tryz.ntmps57
   go_wp2_with (go_at_call 114;refine(hr _ H.out).mono ?_;rintro e w1 ⟨rfl,hb1⟩)
   show P (.returned (.string ⟨#[]⟩)) _
   rw [←hP,Hs.out];exact⟨rfl,H.out.below hb1,.of hb1⟩
theorem Zec (K:Nat)(s:InS)(w:World)(h:InAt w K s):
 Calls Tryz.prog 60 #[.pointer (some ⟨K,0,none⟩)] w (Zf K w (.string (B s.rest.1)) s.rest.2):=by
 have hle:s.left≤1000000000:=by have:=h.len;unfold InS.left;split<;>omega
 have hl:=fun w h=>Zg0 K s w h;have ht:=fun w h=>ZcP K s s.left (by omega) (by omega) w h;rw [Int.toNat_natCast] at ht;unfold Zf at ht;have hs:s.rest=s.take s.left:=rfl;rw [hs];generalize hP:Zf K w (.string (B (s.take s.left).1)) (s.take s.left).2=P at*;have H:=Lib.hid h;clear hs h hle;go_enter Tryz.func60,Tryz.ntmps60
 go_wp2_with (first|(go_at_call 121;refine(hl _ H.out).mono ?_;rintro e w1 ⟨rfl,hb1⟩;have h1:=H.out.below hb1;have H1:=Lib.hid h1;clear h1)|(go_at_call 57;refine(ht _ H1.out).mono ?_;rintro e w2 ⟨rfl,h2,hb2⟩))
 show P (.returned (.string (B (s.take s.left).1))) _
 rw [←hP];exact⟨rfl,h2,(But.of hb1).trans (hb2.mono hb1.size)⟩
theorem Zjr (K:Nat)(s:InS)(k:Nat)(w:World)(h:InAt w K s)(hk:k≤1000000000):
 Calls Tryz.prog 254 #[.pointer (some ⟨K,0,none⟩),.int .i64 k] w fun e w'=>e= .returned (.string (B (s.peek k)))∧Below w.heap.size w w':=by
 have H:=Lib.hid h;by_cases h0:s.e=0
 · have hr:=fun w h=>Zde K s w h h0;obtain⟨c0,c1,c2,c3,c4⟩:=h.get;have hlt:=h.lt;have hfi:=h.fits;have hle:=h.len;have hsz:=Zl s.t;by_cases hk2:(k:Int)≤(s.t.length:Int) - s.n
   · have he:(B s.t).extract s.n (s.n+k)=B (s.peek k):=by
      rw [ZcJ];congr 1;unfold InS.peek;rw [if_neg (by omega),show s.n+k - s.n=k by omega]
     have He:=Lib.hid he;clear h h0 c2 c3 c4 he;go_enter Tryz.func254,Tryz.ntmps254
     go_wp2_with (go_at_call 114;refine(hr _ H.out).mono ?_;rintro e w1 ⟨rfl,hb1⟩;obtain⟨hc,hf⟩:=Zb2 hb1)
     go_quiet (fail)
     go_wp2_with fail
     go_quiet (fail)
     go_wp2_with fail
     go_ret
     refine⟨?_,below_drewN (below_drewN hb1 _) _⟩
     first|exact congrArg (fun x=>Ending.returned (.string x)) He.out|(show Ending.returned (.string ((B s.t).extract s.n ((s.n:Int)+min (k:Int) ((s.t.length:Int) - s.n)).toNat))=_;rw [←He.out];congr 3;omega)
   · have he:(B s.t).extract s.n (s.n+(s.t.length - s.n))=B (s.peek k):=by
      rw [ZcJ];congr 1;unfold InS.peek;rw [if_neg (by omega),show s.n+(s.t.length - s.n) - s.n=s.t.length - s.n by omega];rw [List.take_of_length_le (by simp),List.take_of_length_le (by simp;omega)]
     have He:=Lib.hid he;clear h h0 c2 c3 c4 he;go_enter Tryz.func254,Tryz.ntmps254
     go_wp2_with (go_at_call 114;refine(hr _ H.out).mono ?_;rintro e w1 ⟨rfl,hb1⟩;obtain⟨hc,hf⟩:=Zb2 hb1)
     go_quiet (fail)
     go_wp2_with fail
     go_quiet (fail)
     go_wp2_with fail
     go_ret
     refine⟨?_,below_drewN (below_drewN hb1 _) _⟩
     first|exact congrArg (fun x=>Ending.returned (.string x)) He.out|(show Ending.returned (.string ((B s.t).extract s.n ((s.n:Int)+min (k:Int) ((s.t.length:Int) - s.n)).toNat))=_;rw [←He.out];congr 3;omega)
 · have hr:=fun w h=>Zdd K s w h h0;have hs:s.peek k=[]:=by unfold InS.peek;rw [if_pos h0]
   have Hs:=Lib.hid hs;clear hs h h0;go_enter Tryz.func254,Tryz.ntmps254
   go_wp2_with (go_at_call 114;refine(hr _ H.out).mono ?_;rintro e w1 ⟨rfl,hb1⟩)
   go_ret
   exact⟨by rw [Hs.out];rfl,hb1⟩
theorem ZjM (k:Nat)(hk:k≤8)(w:World):Calls Tryz.prog 85 #[.int .i64 k] w fun e w'=>e= .returned (.int .i64 k)∧w=w':=by
 obtain rfl|rfl|rfl|rfl|rfl|rfl|rfl|rfl|rfl:k=0∨k=1∨k=2∨k=3∨k=4∨k=5∨k=6∨k=7∨k=8:=by omega
 all_goals
  go_enter Tryz.func85,Tryz.ntmps85
  go_wp2_with fail
  go_ret
  exact⟨rfl,rfl⟩
namespace InS
theorem bigN_lt:∀(l:List UInt8),l.length≤8→bigN l<256^l.length∧∀(m:List UInt8) (x:UInt8),l=m++[x]→bigN l=bigN m*256+x.toNat:=by
 intro l;induction h:l.length generalizing l with
 |zero=>intro _;have:=List.eq_nil_of_length_eq_zero h;subst this;exact⟨by decide,fun m x e=>by simp at e⟩
 |succ n ih=>
  intro hl;have hne:l≠[]:=by rintro rfl;simp at h
  obtain⟨m,x,rfl⟩:∃m x,l=m++[x]:=⟨_,_,(List.dropLast_concat_getLast hne).symm⟩
  have hm:m.length=n:=by simpa using h
  obtain⟨h1,_⟩:=ih m hm (by omega);have hx:=x.toNat_lt;have hp:256^n≤256^7:=Nat.pow_le_pow_right (by decide) (by omega);have e:bigN (m++[x])=bigN m*256+x.toNat:=by
   have:bigN (m++[x])=(bigN m*256+x.toNat) % 18446744073709551616:=by
    unfold bigN;rw [List.foldl_append];rfl
   rw [this,Nat.mod_eq_of_lt];have:(256:Nat)^7*256=18446744073709551616:=by decide
   omega
  refine⟨by rw [e,Nat.pow_succ];omega,fun m' x' e'=> ?_⟩;have:=List.append_inj' e' rfl;obtain⟨rfl,h2⟩:=this;simp only [List.cons.injEq,and_true] at h2;subst h2;exact e
theorem bigN_snoc (l:List UInt8)(i:Nat)(hi:i<l.length)(hl:l.length≤8):bigN (l.take (i+1))=bigN (l.take i)*256+l[i].toNat:=by
 have hs:l.take (i+1)=l.take i++[l[i]]:=by rw [List.take_succ_eq_append_getElem hi]
 exact(bigN_lt (l.take (i+1)) (by rw [List.length_take];omega)).2 _ _ hs
theorem bigN_bd (l:List UInt8)(i:Nat)(hi:i<l.length)(hl:l.length≤8):bigN (l.take i)<72057594037927936:=by
 have h1:=(bigN_lt (l.take i) (by rw [List.length_take];omega)).1;have:(256:Nat)^(l.take i).length≤256^7:=Nat.pow_le_pow_right (by decide) (by rw [List.length_take];omega);have e:(256:Nat)^7=72057594037927936:=by decide
 omega
end InS
theorem u64_or8 {x y:Int} (hy₀:0≤y)(hy:y<256)(hx₀:0≤x)(hx:x<72057594037927936):bits .or .u64 (x*256) y=x*256+y:=
 bits_join .u64 64 (by decide) (fun n h0 h1=>by simp [IntKind.wrap,IntKind.bits,IntKind.signed];omega) 8 (x*256) y (by omega) (by omega) (by omega) hy₀ hy (by omega)
theorem Zd4 (s:InS)(k:Nat):(s.take k).1.length≤k:=by
 unfold InS.take;split
 · simp
 · split
   · simp
   · simp;omega
def BgRel (l:List UInt8)(n i:Value):Prop:=∃k:Nat,k≤l.length∧i= .int .i64 k∧n= .int .u64 (InS.bigN (l.take k):Int)
theorem ZcN (K:Nat)(s:InS)(k:Nat)(hk:k≤8)(w:World)(h:InAt w K s):
 Calls Tryz.prog 56 #[.pointer (some ⟨K,0,none⟩),.int .i64 k] w (Zf K w (.int .u64 ((s.big k).1:Nat)) (s.big k).2):=by
 have hs:s.big k=(InS.bigN (s.take k).1,(s.take k).2):=by unfold InS.big;rw [Nat.min_eq_left hk]
 rw [hs];have ht:=fun w h=>ZcP K s k (by omega) (by omega) w h;rw [Int.toNat_natCast] at ht;unfold Zf at ht;have hl:=Zd4 s k;clear hs;generalize (s.take k).2=s2 at*;generalize hLL:(s.take k).1=L at*;generalize hP:Zf K w (.int .u64 ((InS.bigN L,s2).1:Nat)) (InS.bigN L,s2).2=P at*;have H:=Lib.hid h;have hw:=fun w=>ZjM k hk w;have hsz:=Zl L;clear h hLL;go_enter Tryz.func56,Tryz.ntmps56
 go_wp2_with (first|(go_at_call 85;refine(hw _).mono ?_;rintro e w1 ⟨rfl,rfl⟩)|(go_at_call 57;refine(ht _ H.out).mono ?_;rintro e w2 ⟨rfl,h2,hb2⟩))
 go_loop [6,7] (fun n i=>BgRel L n i) (fun _ i=>L.length - (intOf i).toNat)
 case atStart=>exact⟨0,Nat.zero_le _,rfl,rfl⟩
 case round=>
  obtain⟨i,hi,rfl,rfl⟩:=hrel;by_cases hlt:i<L.length
  · have hg:(B L)[i]'(by omega)=L[i]:=by simp [B];rfl
    have hsn:=InS.bigN_snoc L i hlt (by omega);have hbd:=InS.bigN_bd L i hlt (by omega);have hx:=L[i].toNat_lt;have hor:=u64_or8 (x:=(InS.bigN (L.take i):Int)) (y:=(L[i].toNat:Int)) (by omega) (by omega) (by omega) (by omega);have Hsn:=Lib.hid hsn;clear hsn;generalize InS.bigN (L.take i)=N at*;go_wp2_with fail
    go_round
    case rel=>exact⟨i+1,by omega,by go_num,by rw [Hsn.out];go_num⟩
    case measure=>simp [intOf];omega
  · have:L.take i=L:=List.take_of_length_le (by omega);go_wp2_with fail
    show P (.returned (.int .u64 (InS.bigN L:Int))) _
    rw [←hP];exact⟨rfl,h2,hb2⟩
end Go.Proofs.YtecandjkbbpooaaGreatDoor
namespace Go.Proofs.YtecandjkbbpooaaGreatDoor
open Go
structure Fr where
 id:List UInt8
 st:UInt8
 fm:UInt8
 grp:UInt8
 body:List UInt8
 at_:Int
def Zx (v:Nat):Nat:=if v=2 then 3 else if v=3∨v=4 then 4 else 0
def ZJ (v:Nat)(m:UInt8):Bool:=(v==3&&m&&&0xC0 !=0)||(v==4&&m&&&0x0C !=0)
def Z7 (v:Nat)(m:UInt8):Bool:= !ZJ v m&&((v==3&&m&&&0x20 !=0)||(v==4&&m&&&0x40 !=0))
def Zap (v:Nat)(m:UInt8):Bool:=v==4&& !ZJ v m&&m&&&1 !=0
def ZaG (v:Nat)(m:UInt8):Bool:=v==4&& !ZJ v m&&m&&&2 !=0
def Zal:List UInt8→Nat
 |[]=>0
 |x::r=>if Zct x then Zal r+1 else 0
theorem Znb:∀l:List UInt8,l.all Zct=true→Zal l=l.length
 |[],_=>rfl
 |x::r,h=>by
  simp only [List.all_cons,Bool.and_eq_true] at h;simp [Zal,h.1,Znb r h.2]
def Zg (v:Nat)(f:Fr):List UInt8:=
 (if Z7 v f.fm then [f.grp] else [])++((if Zap v f.fm then ZO f.body.length else [])++
  (if ZaG v f.fm then ZR f.body else f.body))
def ZL (v n:Nat):List UInt8:=if v=2 then Zah n 3 else if v=3 then Zah n 4 else ZO n
def Zab (v:Nat)(f:Fr):List UInt8:=if v=2 then [] else [f.st,f.fm]
def Zt (v:Nat)(f:Fr):List UInt8:=f.id++(ZL v (Zg v f).length++(Zab v f++Zg v f))
def Zbp (v:Nat)(f:Fr)(data:List UInt8)(k:Nat):Except (Nat×Nat) Fr:=
 if ZJ v f.fm then .ok {f with body:=data} else
 let s:InS:=⟨data,0,k,0,0⟩
 let p:=if Z7 v f.fm then s.big 1 else(f.grp.toNat,s)
 let q:=if Zap v f.fm then p.2.safe else(0,p.2)
 if q.2.e≠0 then .error (q.2.e,q.2.a) else
 let d:=q.2.rest.1
 let d:=if ZaG v f.fm then ZV false d else d
 if Zap v f.fm=true∧q.1≠d.length then .error (1,p.2.at_) else .ok {f with grp:=UInt8.ofNat p.1,body:=d}
def ZbT (v:Nat)(s:InS):Nat×InS:=if v=2 then s.big 3 else if v=3 then s.big 4 else s.safe
def ZaM (v:Nat)(s:InS)(sp:Bool):Option Fr×InS:=
 if Zx v=0∨s.e≠0∨s.left=0∨s.peek 1=[0] then(none,s) else
 let i:=s.take (Zx v)
 let s1:=if Zal i.1<i.1.length then i.2.fail 1 (s.at_+Zal i.1) else i.2
 let m:=ZbT v s1
 let g:=if 2<v then m.2.big 2 else(0,m.2)
 let fm:=UInt8.ofNat g.1|||(if v=4∧sp=true then 2 else 0)
 let f:Fr:=⟨i.1,UInt8.ofNat (g.1 / 256),fm,0,[],s.at_⟩
 let d:=g.2.take m.1
 if d.2.e≠0 then(none,d.2) else
 match Zbp v f d.1 g.2.at_ with
 | .error x=>(none,d.2.fail x.1 x.2)
 | .ok f=>(some f,d.2)
theorem ZqH {v:Nat} {f f':Fr} {d:List UInt8} {k:Nat} (h:Zbp v f d k= .ok f'):f'.at_=f.at_:=by
 unfold Zbp at h;simp only at h
 repeat' split at h
 all_goals first
  |(injection h with h;rw [←h];done)
  |(simp at h;done)
theorem Zst {v:Nat} {s:InS} {sp:Bool} {f:Fr} {s':InS} (h:ZaM v s sp=(some f,s')):0≤f.at_:=by
 unfold ZaM at h;simp only at h
 repeat' split at h
 all_goals first
  |(simp at h;done)
  |(rename_i hf;have:=ZqH hf;simp only [Prod.mk.injEq,Option.some.injEq] at h;rw [←h.1,this];exact Int.natCast_nonneg _)
structure FrOk (v:Nat)(f:Fr):Prop where
 ver:v=2∨v=3∨v=4
 name:f.id.length=Zx v
 caps:f.id.all Zct=true
 two:v=2→f.st=0∧f.fm=0
 grp:Z7 v f.fm=false→f.grp=0
 many:(Zg v f).length<268435456
 many2:v=2→(Zg v f).length<16777216
theorem ZrE (v:Nat)(f:Fr)(h:ZJ v f.fm=true):Zg v f=f.body:=by
 simp [Zg,Z7,Zap,ZaG,h]
theorem ZfW (b:Nat)(p r:List UInt8)(x:UInt8):(InS.mk' b p (x::r)).big 1=(x.toNat,InS.mk' b (p++[x]) r):=by
 have h:=InS.big_mk b p [x] r 1 rfl;have hx:=x.toNat_lt;have e:InS.bigN [x]=x.toNat:=by simp only [InS.bigN,List.foldl];omega
 rw [e] at h;exact h
theorem ZqI (v:Nat)(f:Fr)(k:Nat)(ok:FrOk v f)(b0:f.body.length<268435456)(b:List UInt8):
 Zbp v {f with grp:=0,body:=b} (Zg v f) k= .ok f:=by
 by_cases hl:ZJ v f.fm=true
 · rw [ZrE v f hl];have hg:f.grp=0:=ok.grp (by simp [Z7,hl]);simp only [Zbp,hl,if_true];cases f;simp_all
 · have hl':ZJ v f.fm=false:=by simpa using hl
   have hs:(if ZaG v f.fm then ZV false (if ZaG v f.fm then ZR f.body else f.body) else(if ZaG v f.fm then ZR f.body else f.body))=f.body:=by
    split
    · exact Zkw _
    · rfl
   have s0:(⟨Zg v f,0,k,0,0⟩:InS)=InS.mk' k [] (Zg v f):=rfl;simp only [Zbp,hl',s0,Bool.false_eq_true,if_false];by_cases hg:Z7 v f.fm=true
   · by_cases hm:Zap v f.fm=true
     · simp only [Zg,hg,hm,if_true,List.cons_append,List.nil_append,ZfW,InS.safe_mk _ _ _ _ b0,InS.rest_mk];simp only [InS.mk',ne_eq,not_true_eq_false,if_false,hs,and_false,UInt8.ofNat_toNat]
     · have hm':Zap v f.fm=false:=by simpa using hm
       simp only [Zg,hg,hm',if_true,List.cons_append,List.nil_append,ZfW,Bool.false_eq_true,if_false,InS.rest_mk];simp only [InS.mk',ne_eq,not_true_eq_false,if_false,hs,false_and,UInt8.ofNat_toNat]
   · have hg':Z7 v f.fm=false:=by simpa using hg
     have g0:=ok.grp hg';by_cases hm:Zap v f.fm=true
     · simp only [Zg,hg',hm,if_true,Bool.false_eq_true,if_false,List.nil_append,InS.safe_mk _ _ _ _ b0,InS.rest_mk];simp only [InS.mk',ne_eq,not_true_eq_false,if_false,hs,and_false];cases f;simp_all
     · have hm':Zap v f.fm=false:=by simpa using hm
       simp only [Zg,hg',hm',Bool.false_eq_true,if_false,List.nil_append,InS.rest_mk];simp only [InS.mk',ne_eq,not_true_eq_false,if_false,hs,false_and];cases f;simp_all
end Go.Proofs.YtecandjkbbpooaaGreatDoor
