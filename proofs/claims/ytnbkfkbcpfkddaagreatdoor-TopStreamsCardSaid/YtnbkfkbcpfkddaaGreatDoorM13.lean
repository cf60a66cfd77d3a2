/- Lemmas for a statement on the tops; conditions: as each says. -/
import Derived.OwnWalk
import Derived.Lib.EndianBits
import Derived.Test.YtnbkfkbcpfkddaaGreatDoorM3
set_option linter.unusedVariables false
set_option linter.unusedSimpArgs false
set_option maxRecDepth 100000
set_option maxHeartbeats 2000000
namespace Go.Proofs.YtnbkfkbcpfkddaaGreatDoor
open Go
structure InS where
 t:List UInt8
 n:Nat
 base:Nat
 e:Nat
 a:Nat
def ZeW:Nat:=9223372036854775807
namespace InS
def place (s:InS)(k:Nat):Nat:=if k>ZeW - s.base then ZeW else s.base+k
def fail (s:InS)(e a:Nat):InS:=if s.e=0∧e≠0 then{s with e:=e,a:=a} else s
def short (s:InS):InS:=s.fail 1 (s.place s.t.length)
def left (s:InS):Nat:=if s.e=0 then s.t.length - s.n else 0
def at_ (s:InS):Nat:=s.place s.n
def take (s:InS)(k:Nat):List UInt8×InS:=
 if s.e≠0 then([],s) else if s.t.length - s.n<k then([],s.short)
 else((s.t.drop s.n).take k,{s with n:=s.n+k})
def bigN (l:List UInt8):Nat:=l.foldl (fun n x=>(n*256+x.toNat) % 18446744073709551616) 0
def big (s:InS)(w:Nat):Nat×InS:=let p:=s.take (min w 8);(bigN p.1,p.2)
def differ:List UInt8→List UInt8→Option Nat
 |x::r,y::q=>if x=y then(differ r q).map (· +1) else some 0
 |_,_=>none
def want (s:InS)(w:List UInt8):Bool×InS:=
 if s.e≠0 then(false,s) else
 match differ w (s.t.drop s.n) with
 |some i=>(false,s.fail 1 (s.place (s.n+i)))
 |none=>if s.t.length - s.n<w.length then(false,s.short) else(true,{s with n:=s.n+w.length})
def mk' (base:Nat)(p r:List UInt8):InS:=⟨p++r,p.length,base,0,0⟩
theorem left_mk (b:Nat)(p r:List UInt8):(mk' b p r).left=r.length:=by simp [left,mk']
theorem take_mk (b:Nat)(p x r:List UInt8):(mk' b p (x++r)).take x.length=(x,mk' b (p++x) r):=by
 have h:¬x.length+r.length<x.length:=by omega
 simp [take,mk',List.append_assoc,h]
theorem take_mk' (b:Nat)(p x r:List UInt8)(k:Nat)(h:x.length=k):(mk' b p (x++r)).take k=(x,mk' b (p++x) r):=by
 rw [←h,take_mk]
theorem big_mk (b:Nat)(p x r:List UInt8)(w:Nat)(h:x.length=min w 8):
 (mk' b p (x++r)).big w=(bigN x,mk' b (p++x) r):=by
 simp [big,take_mk' b p x r _ h]
theorem differ_same:∀w r:List UInt8,differ w (w++r)=none
 |[],_=>by simp [differ]
 |x::w,r=>by simp [differ,differ_same w r]
theorem want_mk (b:Nat)(p w r:List UInt8):(mk' b p (w++r)).want w=(true,mk' b (p++w) r):=by
 simp [want,mk',differ_same,List.append_assoc]
end InS
def ZbA (n:Nat):Nat→List UInt8
 |0=>[]
 |w+1=>UInt8.ofNat (n / 256^w % 256)::ZbA n w
end Go.Proofs.YtnbkfkbcpfkddaaGreatDoor
namespace Go.Proofs.YtnbkfkbcpfkddaaGreatDoor
open Go Go.RowKit
theorem Zfe {w:World} {k j g:Nat} (h:g≠k)(v:Value):(w.setCell ⟨k,j,none⟩ v).heap[g]? =w.heap[g]?:=heap_setCell_other w ⟨k,j,none⟩ g v h
def five (s:InS):Array Value:=#[.string (B s.t),.int .i64 s.n,.int .i64 s.base,.int .i64 s.e,.int .i64 s.a]
structure InAt (w:World)(K:Nat)(s:InS):Prop where
 row:w.heap[K]? =some (.cells (five s) 189 (0,0))
 fits:s.n≤s.t.length
 room:s.base+s.t.length≤1000000000
section
variable {w w':World} {K:Nat} {s:InS}
theorem InAt.len (h:InAt w K s):s.t.length≤1000000000:=by have:=h.room;omega
theorem InAt.base (h:InAt w K s):s.base≤1000000000:=by have:=h.room;omega
theorem InAt.lt (h:InAt w K s):K<w.heap.size:=(Array.getElem?_eq_some_iff.1 h.row).1
theorem InAt.get (h:InAt w K s):w.cell? ⟨K,0,none⟩=some (.string (B s.t))∧w.cell? ⟨K,1,none⟩=some (.int .i64 s.n)∧w.cell? ⟨K,2,none⟩=some (.int .i64 s.base)∧w.cell? ⟨K,3,none⟩=some (.int .i64 s.e)∧w.cell? ⟨K,4,none⟩=some (.int .i64 s.a):=by
 refine⟨?_,?_,?_,?_,?_⟩<;>(rw [cell_of_row _ K _ _ _ (0,0) h.row];rfl)
theorem InAt.free (h:InAt w K s)(j:Nat):w.frozen? ⟨K,j,none⟩=false:=frozen_of_row _ K j _ _ h.row
theorem InAt.same (h:InAt w K s)(e:w'.heap[K]? =w.heap[K]?):InAt w' K s:=⟨e.trans h.row,h.fits,h.room⟩
theorem InAt.below (h:InAt w K s)(hb:Below w.heap.size w w'):InAt w' K s:=h.same (hb.block K h.lt)
theorem InAt.alloc (h:InAt w K s)(o:Obj):InAt (w.alloc o) K s:=h.below ((Below.refl _ _).alloc (Nat.le_refl _) _)
theorem InAt.but {C:Nat} (h:InAt w K s)(hb:But C w.heap.size w w')(hC:K≠C):InAt w' K s:=h.same (hb.block K h.lt hC)
theorem InAt.drewN (h:InAt w K s)(n:Nat):InAt (w.drewN n) K s:=h.same rfl
theorem InAt.set (h:InAt w K s){g:Nat} (hg:K≠g)(j:Nat)(v:Value):InAt (w.setCell ⟨g,j,none⟩ v) K s:=h.same (Zfe hg v)
theorem InAt.next (h:InAt w K s)(n:Nat)(hn:n≤s.t.length):InAt (w.setCell ⟨K,1,none⟩ (.int .i64 n)) K {s with n:=n}:=
 ⟨by rw [heap_setCell_same w K 1 _ _ _ h.row];rfl,hn,h.room⟩
theorem InAt.wrong (h:InAt w K s)(e a:Nat):InAt ((w.setCell ⟨K,3,none⟩ (.int .i64 e)).setCell ⟨K,4,none⟩ (.int .i64 a)) K {s with e:=e,a:=a}:=by
 have h1:=heap_setCell_same w K 3 _ _ (.int .i64 e) h.row;exact⟨by rw [heap_setCell_same _ K 4 _ _ _ h1];rfl,h.fits,h.room⟩
end
theorem ZgU (s:InS)(k:Nat)(hb:s.base≤1000000000)(hk:k≤1000000000):s.place k=s.base+k:=by
 unfold InS.place ZeW;rw [if_neg (by omega)]
def ZD (K:Nat)(w:World)(v:Value)(s:InS)(e:Ending)(w':World):Prop:=e= .returned v∧InAt w' K s∧But K w.heap.size w w'
theorem Zdu (K:Nat)(s:InS)(w:World)(h:InAt w K s):
 Calls Tryz.prog 57 #[.pointer (some ⟨K,0,none⟩)] w fun e w'=>e= .returned (.int .i64 s.at_)∧w=w':=by
 have hp:=ZgU s s.n h.base (by have:=h.fits;have:=h.len;omega);obtain⟨c0,c1,c2,c3,c4⟩:=h.get;have h1:=h.fits;have h2:=h.len;have h3:=h.base;clear h;obtain⟨t,n,b,e,a⟩:=s;simp only at c0 c1 c2 c3 c4 h1 h2 h3;have HP:=Lib.hid hp;clear hp;go_enter Tryz.func57,Tryz.ntmps57
 go_wp2_with go_in
 go_ret
 exact⟨ZdZ (by rw [InS.at_,HP.out];simp),rfl⟩
def u8V (c:UInt8):Value:= .int .u8 c.toNat
theorem ZqZ (l:List UInt8):l.map u8V=(l.map fun c:UInt8=>(c.toNat:Int)).map (Value.int .u8):=by
 rw [List.map_map];rfl
theorem Zqu (l:List UInt8):strOfNums (l.map fun c:UInt8=>(c.toNat:Int))=B l:=by
 unfold strOfNums B;congr 1
 rw [List.map_map];congr 1
 conv=>rhs;rw [←List.map_id l]
 exact List.map_congr_left fun c _=>by simp
theorem Zea:(Tryz.prog.info? 5).map (fun i=>(i.zero,i.size,i.bytes))=some (some (.int .u8 0),1,1):=by kernel_rfl
theorem Zgc (w:World){base:Nat} {v:Value} {n:Nat} {l:List UInt8} (h:w.ownsRow base 5 1 v n (l.map u8V)):
 (convert 158 9 v).run Tryz.prog w= .ok (.string (B l)) w:=by
 rw [ZqZ] at h;have:=ZdH (P:=Tryz.prog) 158 9 5 Tryz.underlying158 Tryz.underlying5 Tryz.underlying9 w h;rw [Zqu] at this;exact this
theorem Zq1 (w:World)(q:Value)(T:TypeId):∀j u,[q][j]? =some u→(w.alloc (.cells #[q] T)).cell? ((⟨w.heap.size,0,none⟩:Addr).add j)=some u:=by
 intro j u hu;have hadd:(⟨w.heap.size,0,none⟩:Addr).add j=⟨w.heap.size,j,none⟩:=by unfold Addr.add;split<;>simp_all
 rw [hadd,cell_of_row _ w.heap.size j _ T (0,0) (heap_alloc_new w _)];simpa using hu
section
variable {ops:Array Oper} {rest:List Oper} {o:Oper} {a:Act} {Q:Exit→Act→World→Prop}
theorem app_u8 (hgd:o.guard=none)(s x:Operand)(ho:o.op= .call {callee:= .builtin .append,args:=#[s,x],argTypes:=#[158,158]}) (base:Nat) (v:Value) (l:List UInt8) (hs:a.eval s=v) (W:World) (y:UInt8) (q:Value) (hq:q=u8V y)
 (hown:W.ownsRow base 5 1 v l.length (l.map u8V)) (hbase:base≤W.heap.size) (hlen:l.length≤35184372080000) (hx:a.eval x= .slice (some ⟨W.heap.size,0,none⟩) 1 1)
 (h:∀v' w',Hid (w'.ownsRow base 5 1 v' (l++[y]).length ((l++[y]).map u8V))→Below base W w'→wpList Tryz.prog ops Q rest (a.put o.dst v') w'):
 wpList Tryz.prog ops Q (o::rest) a (W.alloc (.cells #[q] 5)):=by
 obtain⟨i0,hi,iz0,iz1,iz2⟩:=info_parts Zea;subst hq;refine wpList_append_own _ hgd s x 158 ho base 5 i0 _ 1 1 Tryz.underlying158 hi iz0 iz1 iz2 rfl (by decide) v l.length _ hs (hown.alloc _) ⟨W.heap.size,0,none⟩ 1 1 [u8V y] hx rfl (Zq1 W _ _) ?_ (by unfold maxLen;omega) (by omega) (by simp;omega) ?_
 · intro u hu;simp only [List.mem_singleton] at hu;subst hu;rfl
 · intro v6 w6 hown6 hg6 _;refine h v6 w6 (Lib.hid ?_) (Z3 ((Below.refl _ W).alloc hbase _) (hown.alloc _) hg6 (by simp;omega) (Nat.le_refl _));rw [List.length_append,List.map_append];exact hown6
end
theorem InAt.wrongZ {w:World} {K:Nat} {s:InS} (h:InAt w K s)(e a:Int)(he:0≤e)(ha:0≤a):InAt ((w.setCell ⟨K,3,none⟩ (.int .i64 e)).setCell ⟨K,4,none⟩ (.int .i64 a)) K {s with e:=e.toNat,a:=a.toNat}:=by
 have:=h.wrong e.toNat a.toNat
 rwa [Int.toNat_of_nonneg he,Int.toNat_of_nonneg ha] at this
theorem InAt.nextZ {w:World} {K:Nat} {s:InS} (h:InAt w K s)(n:Nat)(z:Int)(hz:z=n)(hn:n≤s.t.length):InAt (w.setCell ⟨K,1,none⟩ (.int .i64 z)) K {s with n:=n}:=by
 subst hz;exact h.next n hn
theorem ZT (e a:Int)(h:e=0)(w:World):
 Calls Tryz.prog 8 #[.agg #[.int .i64 e,.int .i64 a]] w fun e w'=>e= .returned (.bool false)∧Below w.heap.size w w':=by
 subst h;go_enter Tryz.func8,Tryz.ntmps8
 go_wp2_with fail
 go_ret
 exact⟨rfl,(Below.refl _ w).alloc (Nat.le_refl _) _⟩
theorem Za5 (e a:Int)(h:e≠0)(w:World):
 Calls Tryz.prog 8 #[.agg #[.int .i64 e,.int .i64 a]] w fun e w'=>e= .returned (.bool true)∧Below w.heap.size w w':=by
 have h1:(e==0)=false:=by simpa using h
 have h2:(e !=0)=true:=by simpa using h
 go_enter Tryz.func8,Tryz.ntmps8
 go_wp2_with fail
 go_ret
 exact⟨rfl,(Below.refl _ w).alloc (Nat.le_refl _) _⟩
theorem Zeq (K:Nat)(s:InS)(w:World)(h:InAt w K s)(he:s.e=0):
 Calls Tryz.prog 114 #[.pointer (some ⟨K,0,none⟩)] w fun e w'=>e= .returned (.bool true)∧Below w.heap.size w w':=by
 obtain⟨c0,c1,c2,c3,c4⟩:=h.get;rw [he] at c3;have hb:=fun w=>ZT ((0:Nat):Int) s.a rfl w;clear h he c0 c1 c2;go_enter Tryz.func114,Tryz.ntmps114
 go_wp2_with (go_at_call 8;refine(hb _).mono ?_;rintro e w1 ⟨rfl,hb1⟩)
 go_ret
 exact⟨rfl,hb1⟩
theorem Zep (K:Nat)(s:InS)(w:World)(h:InAt w K s)(he:s.e≠0):
 Calls Tryz.prog 114 #[.pointer (some ⟨K,0,none⟩)] w fun e w'=>e= .returned (.bool false)∧Below w.heap.size w w':=by
 obtain⟨c0,c1,c2,c3,c4⟩:=h.get;have hb:=fun w=>Za5 (s.e:Int) s.a (by omega) w;clear h he c0 c1 c2;go_enter Tryz.func114,Tryz.ntmps114
 go_wp2_with (go_at_call 8;refine(hb _).mono ?_;rintro e w1 ⟨rfl,hb1⟩)
 go_ret
 exact⟨rfl,hb1⟩
theorem Zh5 (K:Nat)(s:InS)(z:Int)(h0:0≤z)(h1:z≤1000000000)(w:World)(h:InAt w K s):
 Calls Tryz.prog 115 #[.pointer (some ⟨K,0,none⟩),.int .i64 z] w fun e w'=>e= .returned (.int .i64 (s.base+z))∧w=w':=by
 obtain⟨c0,c1,c2,c3,c4⟩:=h.get;have hb:=h.base;clear h c0 c1 c3 c4;go_enter Tryz.func115,Tryz.ntmps115
 go_wp2_with fail
 go_ret
 exact⟨rfl,rfl⟩
theorem Zfz (K:Nat)(s:InS)(e z:Int)(he:0<e)(hz:0≤z)(w:World)(h:InAt w K s):
 Calls Tryz.prog 111 #[.pointer (some ⟨K,0,none⟩),.int .i64 e,.int .i64 z] w (ZD K w (.tuple #[]) (s.fail e.toNat z.toNat)):=by
 generalize hP:ZD K w (.tuple #[]) (s.fail e.toNat z.toNat)=P at*;have H:=Lib.hid h;by_cases h0:s.e=0
 · have hr:=fun w h=>Zeq K s w h h0;have hs:s.fail e.toNat z.toNat={s with e:=e.toNat,a:=z.toNat}:=by
    unfold InS.fail;rw [if_pos ⟨h0,by omega⟩]
   have h1:(e==0)=false:=by rw [beq_eq_false_iff_ne];omega
   have h2:(e !=0)=true:=by simp;omega
   have Hs:=Lib.hid hs;obtain⟨c0,c1,c2,c3,c4⟩:=h.get;have f3:=h.free 3;have f4:=h.free 4;have hlt:=h.lt;clear hs h h0;go_enter Tryz.func111,Tryz.ntmps111
   go_wp2_with (go_at_call 114;refine(hr _ H.out).mono ?_;rintro e w1 ⟨rfl,hb1⟩;obtain⟨hc,hf⟩:=Zcx hb1)
   go_end0
   rw [←hP,Hs.out];exact⟨rfl,(H.out.below hb1).wrongZ _ _ (by omega) hz,((But.of hb1).setCell (p:=⟨K,3,none⟩) (.inr rfl) _).setCell (p:=⟨K,4,none⟩) (.inr rfl) _⟩
 · have hr:=fun w h=>Zep K s w h h0;have hs:s.fail e.toNat z.toNat=s:=by unfold InS.fail;rw [if_neg (fun h=>h0 h.1)]
   have Hs:=Lib.hid hs;clear hs h h0;go_enter Tryz.func111,Tryz.ntmps111
   go_wp2_with (go_at_call 114;refine(hr _ H.out).mono ?_;rintro e w1 ⟨rfl,hb1⟩)
   go_end0
   rw [←hP,Hs.out];exact⟨rfl,H.out.below hb1,.of hb1⟩
theorem Zic (K:Nat)(s:InS)(w:World)(h:InAt w K s):
 Calls Tryz.prog 116 #[.pointer (some ⟨K,0,none⟩)] w (ZD K w (.tuple #[]) s.short):=by
 have hf:=fun w h=>Zfz K s 1 (s.base+(s.t.length:Int)) (by decide) (by omega) w h;have hs:s.fail (1:Int).toNat ((s.base:Int)+(s.t.length:Int)).toNat=s.short:=by
  rw [InS.short,ZgU s _ h.base h.len];congr 1
 rw [hs] at hf;unfold ZD at hf;generalize hP:ZD K w (.tuple #[]) s.short=P at*;obtain⟨c0,c1,c2,c3,c4⟩:=h.get;have hl:=h.len;have hp:=fun w h=>Zh5 K s s.t.length (by omega) (by omega) w h;have hsz:=Zm s.t;have H:=Lib.hid h;clear h hs c1 c2 c3 c4;go_enter Tryz.func116,Tryz.ntmps116
 go_wp2_with (first|(go_at_call 115;refine(hp _ H.out).mono ?_;rintro e w1 ⟨rfl,rfl⟩)|(go_at_call 111;refine(hf _ H.out).mono ?_;rintro e w1 ⟨rfl,h1,hb1⟩))
 go_end0
 rw [←hP];exact⟨rfl,h1,hb1⟩
theorem ZbQ (K:Nat)(s:InS)(w:World)(h:InAt w K s):
 Calls Tryz.prog 55 #[.pointer (some ⟨K,0,none⟩)] w fun e w'=>e= .returned (.agg #[.int .i64 s.e,.int .i64 s.a])∧Below w.heap.size w w':=by
 obtain⟨c0,c1,c2,c3,c4⟩:=h.get;have hlt:=h.lt;clear h c0 c1 c2;go_enter Tryz.func55,Tryz.ntmps55
 go_wp2_with fail
 refine bodyPost_ret (v:= .agg #[.int .i64 s.e,.int .i64 s.a]) (by simp [results,Tryz.results55,go_sem]) rfl ?_;exact⟨rfl,(Below.refl _ w).alloc (Nat.le_refl _) _⟩
theorem ZfB (K:Nat)(s:InS)(w:World)(h:InAt w K s):
 Calls Tryz.prog 121 #[.pointer (some ⟨K,0,none⟩)] w fun e w'=>e= .returned (.int .i64 s.left)∧Below w.heap.size w w':=by
 have H:=Lib.hid h;by_cases h0:s.e=0
 · have hr:=fun w h=>Zeq K s w h h0;have hs:((s.left:Nat):Int)=(s.t.length:Int) - s.n:=by
    unfold InS.left;rw [if_pos h0];have:=h.fits;omega
   have Hs:=Lib.hid hs;obtain⟨c0,c1,c2,c3,c4⟩:=h.get;have hlt:=h.lt;have hfi:=h.fits;have hle:=h.len;have hsz:=Zm s.t;clear hs h h0 c2 c3 c4;go_enter Tryz.func121,Tryz.ntmps121
   go_wp2_with (go_at_call 114;refine(hr _ H.out).mono ?_;rintro e w1 ⟨rfl,hb1⟩;obtain⟨hc,hf⟩:=Zcx hb1)
   go_quiet (fail)
   go_wp2_with fail
   go_ret
   exact⟨ZdZ Hs.out.symm,below_drewN hb1 _⟩
 · have hr:=fun w h=>Zep K s w h h0;have hs:s.left=0:=by unfold InS.left;rw [if_neg h0]
   have Hs:=Lib.hid hs;clear hs h h0;go_enter Tryz.func121,Tryz.ntmps121
   go_wp2_with (go_at_call 114;refine(hr _ H.out).mono ?_;rintro e w1 ⟨rfl,hb1⟩)
   go_ret
   exact⟨ZdZ (by rw [Hs.out];rfl),hb1⟩
theorem Zl0 (t:List UInt8)(z:Int)(h0:0≤z)(h1:z+t.length≤1000000000)(w:World):
 Calls Tryz.prog 61 #[.string (B t),.int .i64 z] w fun e w'=>e= .returned (.pointer (some ⟨w.heap.size,0,none⟩))∧InAt w' w.heap.size ⟨t,0,z.toNat,0,0⟩∧Below w.heap.size w w'∧w'.heap.size=w.heap.size+1:=by
 have hz:(max z 0)=z:=by omega
 have HZ:=Lib.hid (Int.toNat_of_nonneg h0);go_enter Tryz.func61,Tryz.ntmps61
 go_wp2_with fail
 go_ret
 refine⟨rfl,⟨?_,Nat.zero_le _,by simp only;omega⟩,(Below.refl _ w).alloc (Nat.le_refl _) _,by simp⟩;rw [heap_alloc_new];simp only [five,HZ.out];rfl
theorem Zmv (t:List UInt8)(ht:t.length≤1000000000)(w:World):
 Calls Tryz.prog 52 #[.string (B t)] w fun e w'=>e= .returned (.pointer (some ⟨w.heap.size,0,none⟩))∧InAt w' w.heap.size ⟨t,0,0,0,0⟩∧Below w.heap.size w w'∧w'.heap.size=w.heap.size+1:=by
 have hi:=Zl0 t 0 (by decide) (by omega);go_enter Tryz.func52,Tryz.ntmps52
 go_wp2_with (go_at_call 61;refine(hi _).mono ?_;rintro e w1 ⟨rfl,h1,hb1,hz1⟩)
 go_ret
 exact⟨rfl,h1,hb1,hz1⟩
theorem ZdA (K:Nat)(s:InS)(z:Int)(hz:0≤z)(hz2:z≤9223372036854775807)(w:World)(h:InAt w K s):
 Calls Tryz.prog 59 #[.pointer (some ⟨K,0,none⟩),.int .i64 z] w (ZD K w (.string (B (s.take z.toNat).1)) (s.take z.toNat).2):=by
 obtain⟨k,rfl⟩:∃k:Nat,z=k:=⟨z.toNat,by omega⟩
 rw [Int.toNat_natCast];generalize hP:ZD K w (.string (B (s.take k).1)) (s.take k).2=P at*;have H:=Lib.hid h;by_cases h0:s.e=0
 · have hr:=fun w h=>Zeq K s w h h0;by_cases hk:s.t.length - s.n<k
   · have hs:s.take k=([],s.short):=by unfold InS.take;rw [if_neg (by omega),if_pos hk]
     have Hs:=Lib.hid hs;have hsh:=fun w h=>Zic K s w h;unfold ZD at hsh;obtain⟨c0,c1,c2,c3,c4⟩:=h.get;have hlt:=h.lt;have hfi:=h.fits;have hle:=h.len;have hsz:=Zm s.t;have hd:decide ((k:Int)<0)=false:=by simp
     clear hs h h0 c2 c3 c4 hz;go_enter Tryz.func59,Tryz.ntmps59
     go_wp2_with (go_at_call 114;refine(hr _ H.out).mono ?_;rintro e w1 ⟨rfl,hb1⟩;obtain⟨hc,hf⟩:=Zcx hb1)
     go_quiet (fail)
     go_wp2_with (go_at_call 116;refine(hsh _ ((H.out.below hb1).drewN _)).mono ?_;rintro e w2 ⟨rfl,h2,hb2⟩)
     show P (.returned (.string ⟨#[]⟩)) _
     rw [←hP,Hs.out];exact⟨rfl,h2,(But.of (below_drewN hb1 _)).trans (hb2.mono hb1.size)⟩
   · have hs:s.take k=((s.t.drop s.n).take k,{s with n:=s.n+k}):=by unfold InS.take;rw [if_neg (by omega),if_neg hk]
     have Hs:=Lib.hid hs;obtain⟨c0,c1,c2,c3,c4⟩:=h.get;have f1:=h.free 1;have hlt:=h.lt;have hfi:=h.fits;have hle:=h.len;have hsz:=Zm s.t;have hd:decide ((k:Int)<0)=false:=by simp
     have hd2:decide ((k:Int)>(s.t.length:Int) - s.n)=false:=by rw [decide_eq_false_iff_not];omega
     have he:(B s.t).extract s.n (s.n+k)=B ((s.t.drop s.n).take k):=by rw [Zbx];congr 2;omega
     have He:=Lib.hid he;clear hs h h0 c2 c3 c4 hz he;go_enter Tryz.func59,Tryz.ntmps59
     go_wp2_with (go_at_call 114;refine(hr _ H.out).mono ?_;rintro e w1 ⟨rfl,hb1⟩;obtain⟨hc,hf⟩:=Zcx hb1)
     go_quiet (fail)
     go_wp2_with fail
     go_quiet (fail)
     go_wp2_with fail
     show P (.returned (.string ((B s.t).extract s.n (s.n+k)))) _
     rw [He.out,←hP,Hs.out];exact⟨rfl,((H.out.below hb1).drewN _).nextZ (s.n+k) ((s.n:Int)+k) (by omega) (by omega),((But.of (below_drewN hb1 _))).setCell (p:=⟨K,1,none⟩) (.inr rfl) _⟩
 · have hr:=fun w h=>Zep K s w h h0;have hs:s.take k=([],s):=by unfold InS.take;rw [if_pos h0]
   have Hs:=Lib.hid hs;clear hs h h0;go_enter Tryz.func59,Tryz.ntmps59
   go_wp2_with (go_at_call 114;refine(hr _ H.out).mono ?_;rintro e w1 ⟨rfl,hb1⟩)
   show P (.returned (.string ⟨#[]⟩)) _
   rw [←hP,Hs.out];exact⟨rfl,H.out.below hb1,.of hb1⟩
theorem Zet (k:Nat)(hk:k≤8)(w:World):Calls Tryz.prog 122 #[.int .i64 k] w fun e w'=>e= .returned (.int .i64 k)∧w=w':=by
 obtain rfl|rfl|rfl|rfl|rfl|rfl|rfl|rfl|rfl:k=0∨k=1∨k=2∨k=3∨k=4∨k=5∨k=6∨k=7∨k=8:=by omega
 all_goals
  go_enter Tryz.func122,Tryz.ntmps122
  go_wp2_with fail
  go_ret
  exact⟨rfl,rfl⟩
namespace InS
theorem bigN_lt:∀(l:List UInt8),l.length≤8→bigN l<256^l.length∧∀(m:List UInt8) (x:UInt8),l=m++[x]→bigN l=bigN m*256+x.toNat:=by
 intro l;induction h:l.length generalizing l with
 |zero=>intro _;have:=List.eq_nil_of_length_eq_zero h;subst this;exact⟨by decide,fun m x e=>by simp at e⟩
 |succ n ih=>
  intro hl;have hne:l≠[]:=by rintro rfl;simp at h
  obtain⟨m,x,rfl⟩:∃m x,l=m++[x]:=⟨_,_,(List.dropLast_concat_getLast hne).symm⟩
  have hm:m.length=n:=by simpa using h
  obtain⟨h1,_⟩:=ih m hm (by omega);have hx:=x.toNat_lt;have hp:256^n≤256^7:=Nat.pow_le_pow_right (by decide) (by omega);have e:bigN (m++[x])=bigN m*256+x.toNat:=by
   have:bigN (m++[x])=(bigN m*256+x.toNat) % 18446744073709551616:=by
    unfold bigN;rw [List.foldl_append];rfl
   rw [this,Nat.mod_eq_of_lt];have:(256:Nat)^7*256=18446744073709551616:=by decide
   omega
  refine⟨by rw [e,Nat.pow_succ];omega,fun m' x' e'=> ?_⟩;have:=List.append_inj' e' rfl;obtain⟨rfl,h2⟩:=this;simp only [List.cons.injEq,and_true] at h2;subst h2;exact e
theorem bigN_snoc (l:List UInt8)(i:Nat)(hi:i<l.length)(hl:l.length≤8):bigN (l.take (i+1))=bigN (l.take i)*256+l[i].toNat:=by
 have hs:l.take (i+1)=l.take i++[l[i]]:=by rw [List.take_succ_eq_append_getElem hi]
 exact(bigN_lt (l.take (i+1)) (by rw [List.length_take];omega)).2 _ _ hs
theorem bigN_bd (l:List UInt8)(i:Nat)(hi:i<l.length)(hl:l.length≤8):bigN (l.take i)<72057594037927936:=by
 have h1:=(bigN_lt (l.take i) (by rw [List.length_take];omega)).1;have:(256:Nat)^(l.take i).length≤256^7:=Nat.pow_le_pow_right (by decide) (by rw [List.length_take];omega);have e:(256:Nat)^7=72057594037927936:=by decide
 omega
end InS
theorem u64_or8 {x y:Int} (hy₀:0≤y)(hy:y<256)(hx₀:0≤x)(hx:x<72057594037927936):bits .or .u64 (x*256) y=x*256+y:=
 bits_join .u64 64 (by decide) (fun n h0 h1=>by simp [IntKind.wrap,IntKind.bits,IntKind.signed];omega) 8 (x*256) y (by omega) (by omega) (by omega) hy₀ hy (by omega)
theorem ZcS (s:InS)(k:Nat):(s.take k).1.length≤k:=by
 unfold InS.take;split
 · simp
 · split
   · simp
   · simp;omega
def BgRel (l:List UInt8)(n i:Value):Prop:=∃k:Nat,k≤l.length∧i= .int .i64 k∧n= .int .u64 (InS.bigN (l.take k):Int)
theorem Zh7 (K:Nat)(s:InS)(k:Nat)(hk:k≤8)(w:World)(h:InAt w K s):
 Calls Tryz.prog 58 #[.pointer (some ⟨K,0,none⟩),.int .i64 k] w (ZD K w (.int .u64 ((s.big k).1:Nat)) (s.big k).2):=by
 have hs:s.big k=(InS.bigN (s.take k).1,(s.take k).2):=by unfold InS.big;rw [Nat.min_eq_left hk]
 rw [hs];have ht:=fun w h=>ZdA K s k (by omega) (by omega) w h;rw [Int.toNat_natCast] at ht;unfold ZD at ht;have hl:=ZcS s k;clear hs;generalize (s.take k).2=s2 at*;generalize hLL:(s.take k).1=L at*;generalize hP:ZD K w (.int .u64 ((InS.bigN L,s2).1:Nat)) (InS.bigN L,s2).2=P at*;have H:=Lib.hid h;have hw:=fun w=>Zet k hk w;have hsz:=Zm L;clear h hLL;go_enter Tryz.func58,Tryz.ntmps58
 go_wp2_with (first|(go_at_call 122;refine(hw _).mono ?_;rintro e w1 ⟨rfl,rfl⟩)|(go_at_call 59;refine(ht _ H.out).mono ?_;rintro e w2 ⟨rfl,h2,hb2⟩))
 go_loop [6,7] (fun n i=>BgRel L n i) (fun _ i=>L.length - (intOf i).toNat)
 case atStart=>exact⟨0,Nat.zero_le _,rfl,rfl⟩
 case round=>
  obtain⟨i,hi,rfl,rfl⟩:=hrel;by_cases hlt:i<L.length
  · have hg:(B L)[i]'(by omega)=L[i]:=by simp [B];rfl
    have hsn:=InS.bigN_snoc L i hlt (by omega);have hbd:=InS.bigN_bd L i hlt (by omega);have hx:=L[i].toNat_lt;have hor:=u64_or8 (x:=(InS.bigN (L.take i):Int)) (y:=(L[i].toNat:Int)) (by omega) (by omega) (by omega) (by omega);have Hsn:=Lib.hid hsn;clear hsn;generalize InS.bigN (L.take i)=N at*;go_wp2_with fail
    go_round
    case rel=>exact⟨i+1,by omega,by go_num,by rw [Hsn.out];go_num⟩
    case measure=>simp [intOf];omega
  · have:L.take i=L:=List.take_of_length_le (by omega);go_wp2_with fail
    show P (.returned (.int .u64 (InS.bigN L:Int))) _
    rw [←hP];exact⟨rfl,h2,hb2⟩
end Go.Proofs.YtnbkfkbcpfkddaaGreatDoor
namespace Go.Proofs.YtnbkfkbcpfkddaaGreatDoor
open Go
structure Fr where
 id:List UInt8
 st:UInt8
 fm:UInt8
 grp:UInt8
 body:List UInt8
 at_:Int
theorem Zit (b:Nat)(p r:List UInt8)(x:UInt8):(InS.mk' b p (x::r)).big 1=(x.toNat,InS.mk' b (p++[x]) r):=by
 have h:=InS.big_mk b p [x] r 1 rfl;have hx:=x.toNat_lt;have e:InS.bigN [x]=x.toNat:=by simp only [InS.bigN,List.foldl];omega
 rw [e] at h;exact h
def Zf (n:Nat):Nat→List UInt8
 |0=>[]
 |w+1=>UInt8.ofNat (n % 256)::Zf (n / 256) w
def Zao:List UInt8→Nat
 |[]=>0
 |x::r=>x.toNat+256*Zao r
theorem ZcP:∀(w n:Nat),(Zf n w).length=w
 |0,_=>rfl
 |w+1,n=>by simp [Zf,ZcP w]
theorem Zlc:∀(w n:Nat),n<256^w→Zao (Zf n w)=n
 |0,n,h=>by simp at h;subst h;rfl
 |w+1,n,h=>by
  rw [Nat.pow_succ] at h;have h1:n / 256<256^w:=Nat.div_lt_of_lt_mul (by rw [Nat.mul_comm];exact h);simp only [Zf,Zao,Zlc w _ h1,UInt8.toNat_ofNat'];omega
namespace InS
def small (s:InS)(w:Nat):Nat×InS:=let p:=s.take (min w 8);(Zao p.1,p.2)
theorem small_mk (b:Nat)(p r:List UInt8)(n w:Nat)(hw:w≤8)(h:n<256^w):
 (mk' b p (Zf n w++r)).small w=(n,mk' b (p++Zf n w) r):=by
 simp only [small];rw [take_mk' b p (Zf n w) r _ (by rw [ZcP];omega)];simp only [Zlc w n h]
end InS
structure Pg where
 fl:UInt8
 pos:Nat
 ser:Nat
 num:Nat
 laces:List UInt8
 body:List UInt8
def Zc:List UInt8→Nat
 |[]=>0
 |x::r=>x.toNat+Zc r
def Z9:List UInt8:=[79,103,103,83]
def ZP (p:Pg)(four:List UInt8):List UInt8:=
 Z9++([0]++([p.fl]++(Zf p.pos 8++(Zf p.ser 4++(Zf p.num 4++(four++([UInt8.ofNat p.laces.length]++(p.laces++p.body))))))))
def ZL (c:List UInt8→Nat)(p:Pg):List UInt8:=ZP p (Zf (c (ZP p [0,0,0,0])) 4)
def Zdk (c:List UInt8→Nat)(s:InS):Option Pg×InS:=
 if s.e≠0∨s.left=0 then(none,s) else
 let s1:=(s.want Z9).2
 let s2:=(s1.want [0]).2
 let f:=s2.big 1
 let q:=f.2.small 8
 let e:=q.2.small 4
 let n:=e.2.small 4
 let u:=n.2.small 4
 let k:=u.2.big 1
 let l:=k.2.take k.1
 let b:=l.2.take (Zc l.1)
 if b.2.e≠0 then(none,b.2) else
 let p:Pg:=⟨UInt8.ofNat f.1,q.1,e.1,n.1,l.1,b.1⟩
 if c (ZP p [0,0,0,0])≠u.1 then(none,b.2.fail 1 n.2.at_) else(some p,b.2)
structure PgOk (p:Pg):Prop where
 pos:p.pos<18446744073709551616
 ser:p.ser<4294967296
 num:p.num<4294967296
 laces:p.laces.length≤255
 body:p.body.length=Zc p.laces
theorem Zps (c:List UInt8→Nat)(hc:∀l,c l<4294967296)(g:Pg)(ok:PgOk g)(b:Nat)(p r:List UInt8):
 Zdk c (InS.mk' b p (ZL c g++r))=(some g,InS.mk' b (p++ZL c g) r):=by
 have ez:∀b x y,(InS.mk' b x y).e=0:=fun _ _ _=>rfl;have hk:(UInt8.ofNat g.laces.length).toNat=g.laces.length:=by
  have:=ok.laces;rw [UInt8.toNat_ofNat'];omega
 have hpos:=ok.pos;have hser:=ok.ser;have hnum:=ok.num;have hsum:=hc (ZP g [0,0,0,0]);generalize hS:c (ZP g [0,0,0,0])=S at hsum;have hp:ZL c g++r=Z9++([0]++(g.fl::(Zf g.pos 8++(Zf g.ser 4++(Zf g.num 4++(Zf S 4++(UInt8.ofNat g.laces.length::(g.laces++(g.body++r))))))))):=by
  rw [ZL,hS,ZP];simp [List.append_assoc]
 have hq:p++ZL c g=p++Z9++[0]++[g.fl]++Zf g.pos 8++Zf g.ser 4++Zf g.num 4++Zf S 4++[UInt8.ofNat g.laces.length]++g.laces++g.body:=by
  rw [ZL,hS,ZP];simp [List.append_assoc]
 rw [hp,hq];have hl:¬((InS.mk' b p (Z9++([0]++(g.fl::(Zf g.pos 8++(Zf g.ser 4++(Zf g.num 4++(Zf S 4++(UInt8.ofNat g.laces.length::(g.laces++(g.body++r))))))))))).e≠0∨
  (InS.mk' b p (Z9++([0]++(g.fl::(Zf g.pos 8++(Zf g.ser 4++(Zf g.num 4++(Zf S 4++(UInt8.ofNat g.laces.length::(g.laces++(g.body++r))))))))))).left=0):=by
  rw [InS.left_mk,ez];simp [Z9]
 simp only [Zdk,if_neg hl,InS.want_mk,Zit];rw [InS.small_mk _ _ _ _ 8 (by omega) (by simpa using hpos)];simp only [];rw [InS.small_mk _ _ _ _ 4 (by omega) (by simpa using hser)];simp only [];rw [InS.small_mk _ _ _ _ 4 (by omega) (by simpa using hnum)];simp only [];rw [InS.small_mk _ _ _ _ 4 (by omega) (by simpa using hsum)];simp only [Zit,hk,InS.take_mk];rw [InS.take_mk' _ _ g.body r _ ok.body];simp only [ez,ne_eq,not_true_eq_false,if_false,UInt8.ofNat_toNat];rw [show(⟨g.fl,g.pos,g.ser,g.num,g.laces,g.body⟩:Pg)=g from rfl,hS];simp only [not_true_eq_false,if_false]
end Go.Proofs.YtnbkfkbcpfkddaaGreatDoor
namespace Go.Proofs.YtnbkfkbcpfkddaaGreatDoor
open Go Go.RowKit
theorem Zfh:∀l:List UInt8,Zao l<256^l.length
 |[]=>by decide
 |x::l=>by
  have:=Zfh l;have hx:=x.toNat_lt;simp only [Zao,List.length_cons,Nat.pow_succ];omega
theorem Zqk (l:List UInt8)(j:Nat)(hj:j<l.length):Zao (l.drop j)=Zao (l.drop (j+1))*256+l[j].toNat:=by
 rw [List.drop_eq_getElem_cons hj,Zao];omega
theorem Zqj (l:List UInt8)(j:Nat)(hj:j<l.length)(hl:l.length≤8):Zao (l.drop (j+1))<72057594037927936:=by
 have h1:=Zfh (l.drop (j+1));have:(256:Nat)^(l.drop (j+1)).length≤256^7:=Nat.pow_le_pow_right (by decide) (by rw [List.length_drop];omega);have e:(256:Nat)^7=72057594037927936:=by decide
 omega
def SmRel (l:List UInt8)(n i:Value):Prop:=∃m:Nat,m≤l.length∧n= .int .u64 (Zao (l.drop m):Int)∧((m=0∧i= .int .i64 (-1))∨∃j:Nat,m=j+1∧i= .int .i64 j)
theorem Zfj (m:Nat):(m=0∧Value.int .i64 ((m:Int) - 1)= .int .i64 (-1))∨∃j:Nat,m=j+1∧Value.int .i64 ((m:Int) - 1)= .int .i64 j:=by
 by_cases h:m=0
 · subst h;exact .inl ⟨rfl,rfl⟩
 · exact .inr ⟨m - 1,by omega,by congr 1;omega⟩
theorem ZcW (K:Nat)(s:InS)(k:Nat)(hk:k≤8)(w:World)(h:InAt w K s):
 Calls Tryz.prog 119 #[.pointer (some ⟨K,0,none⟩),.int .i64 k] w (ZD K w (.int .u64 ((s.small k).1:Nat)) (s.small k).2):=by
 have hs:s.small k=(Zao (s.take k).1,(s.take k).2):=by unfold InS.small;rw [Nat.min_eq_left hk]
 rw [hs];have ht:=fun w h=>ZdA K s k (by omega) (by omega) w h;rw [Int.toNat_natCast] at ht;unfold ZD at ht;have hl:=ZcS s k;clear hs;generalize (s.take k).2=s2 at*;generalize hLL:(s.take k).1=L at*;generalize hP:ZD K w (.int .u64 ((Zao L,s2).1:Nat)) (Zao L,s2).2=P at*;have H:=Lib.hid h;have hw:=fun w=>Zet k hk w;have hsz:=Zm L;clear h hLL;go_enter Tryz.func119,Tryz.ntmps119
 go_wp2_with (first|(go_at_call 122;refine(hw _).mono ?_;rintro e w1 ⟨rfl,rfl⟩)|(go_at_call 59;refine(ht _ H.out).mono ?_;rintro e w2 ⟨rfl,h2,hb2⟩))
 go_loop [6,7] (fun n i=>SmRel L n i) (fun _ i=>(intOf i+1).toNat)
 case atStart=>exact⟨L.length,Nat.le_refl _,by rw [List.drop_length];rfl,Zfj L.length⟩
 case round=>
  obtain⟨m,hm,rfl,hi⟩:=hrel;rcases hi with⟨rfl,rfl⟩|⟨j,rfl,rfl⟩
  · go_wp2_with fail
    show P (.returned (.int .u64 (Zao L:Int))) _
    rw [←hP];exact⟨rfl,h2,hb2⟩
  · have hg:(B L)[j]'(by omega)=L[j]:=by simp [B];rfl
    have hsn:=Zqk L j (by omega);have hbd:=Zqj L j (by omega) (by omega);have hx:=L[j].toNat_lt;have hor:=u64_or8 (x:=(Zao (L.drop (j+1)):Int)) (y:=(L[j].toNat:Int)) (by omega) (by omega) (by omega) (by omega);have Hsn:=Lib.hid hsn;clear hsn;generalize Zao (L.drop (j+1))=N at*;go_wp2_with fail
    go_round
    case rel=>exact⟨j,by omega,by rw [Hsn.out];go_num,Zfj j⟩
    case measure=>simp [intOf]
namespace InS
end InS
namespace InS
theorem differ_skip:∀(k:Nat) (w r:List UInt8),k≤w.length→k≤r.length→(∀j,j<k→w[j]? =r[j]?)→differ w r=(differ (w.drop k) (r.drop k)).map (· +k)
 |0,_,_,_,_,_=>by simp
 |k+1,x::w,y::r,h1,h2,h=>by
  have h0:=h 0 (by omega);simp only [List.getElem?_cons_zero,Option.some.injEq] at h0;subst h0;have ih:=differ_skip k w r (by simpa using h1) (by simpa using h2) (fun j hj=>by have:=h (j+1) (by omega);simpa using this);simp only [differ,if_pos,ih,Option.map_map,List.drop_succ_cons];congr 1
 |k+1,[],_,h1,_,_=>by simp at h1
 |k+1,_::_,[],_,h2,_=>by simp at h2
theorem differ_nil (w:List UInt8):differ [] w=none∧differ w []=none:=by
 constructor
 · cases w<;>rfl
 · cases w<;>rfl
end InS
def WnRel (l r:List UInt8)(W:World)(i:Value)(wr:World):Prop:=∃k:Nat,k≤l.length∧k≤r.length∧i= .int .i64 k∧(∀j,j<k→l[j]? =r[j]?)∧∃n,wr=W.drewN n
theorem Zes (K:Nat)(s:InS)(l:List UInt8)(hl:l.length≤1000000000)(w:World)(h:InAt w K s):
 Calls Tryz.prog 53 #[.pointer (some ⟨K,0,none⟩),.string (B l)] w (ZD K w (.bool (s.want l).1) (s.want l).2):=by
 obtain⟨R,hR⟩:∃R,R=s.want l:=⟨_,rfl⟩
 rw [←hR];generalize hP:ZD K w (.bool R.1) R.2=P at*;have H:=Lib.hid h;by_cases h0:s.e=0
 · have hr:=fun w h=>Zeq K s w h h0;obtain⟨c0,c1,c2,c3,c4⟩:=h.get;have hlt:=h.lt;have hfi:=h.fits;have hle:=h.len;have hba:=h.base;have hsz:=Zm s.t;have hszl:=Zm l;have he:(B s.t).extract s.n s.t.length=B (s.t.drop s.n):=by
    rw [Zbx,List.take_of_length_le (by simp)]
   have hrl:(s.t.drop s.n).length=s.t.length - s.n:=List.length_drop ..;have hszr:=Zm (s.t.drop s.n);rw [InS.want,if_neg (by omega)] at hR;have HR:=Lib.hid hR;have Hrl:=Lib.hid hrl;clear h h0 c2 c3 c4 hR hrl;generalize s.t.drop s.n=r at*;go_enter Tryz.func53,Tryz.ntmps53
   go_wp2_with (go_at_call 114;refine(hr _ H.out).mono ?_;rintro e w1 ⟨rfl,hb1⟩;obtain⟨hc,hf⟩:=Zcx hb1)
   go_quiet (fail)
   go_wp2_with fail
   have hB0:=below_drewN hb1 nq;have H0:=(H.out.below hb1).drewN nq;generalize w1.drewN nq=w0 at*;have HB0:=Lib.hid hB0;have HH0:=Lib.hid H0;clear hb1 hc hf hB0 H0 c0 c1;go_loopw [6] (fun i wr=>WnRel l r w0 i wr) (fun i _=>l.length - (intOf i).toNat)
   case atStart=>exact⟨0,Nat.zero_le _,Nat.zero_le _,rfl,fun j h=>by omega,0,rfl⟩
   case round=>
    obtain⟨k,hk1,hk2,rfl,heq,n,rfl⟩:=hrel;have Heq:=Lib.hid heq;obtain⟨c0,c1,c2,c3,c4⟩:=HH0.out.get;have f1:=HH0.out.free 1;clear heq c0 c2 c3 c4;by_cases hlt1:k<l.length
    · by_cases hlt2:k<r.length
      · have hg1:(B l)[k]'(by omega)=l[k]:=by simp [B];rfl
        have hg2:(B r)[k]'(by omega)=r[k]:=by simp [B];rfl
        by_cases hx:l[k]=r[k]
        · have hx1:(l[k].toNat:Int)=(r[k].toNat:Int):=by rw [hx]
          have hd:((l[k].toNat:Int) !=(r[k].toNat:Int))=false:=by rw [hx1];simp
          clear hx1;have Hx:=Lib.hid hx;clear hx;go_wp2_with fail
          go_quiet (fail)
          go_wp2_with fail
          go_roundw
          case rel=>
           refine⟨k+1,by omega,by omega,by go_num,fun j hj=> ?_,_,rfl⟩;by_cases e:j=k
           · subst e;rw [List.getElem?_eq_getElem hlt1,List.getElem?_eq_getElem hlt2,Hx.out]
           · exact Heq.out j (by omega)
          case measure=>simp [intOf];omega
        · have hx1:(l[k].toNat:Int)≠(r[k].toNat:Int):=fun e=>hx (UInt8.toNat_inj.1 (by omega));have hd:((l[k].toNat:Int) !=(r[k].toNat:Int))=true:=by simpa using hx1
          have hRR:=HR.out;rw [InS.differ_skip k l r hk1 hk2 Heq.out,List.drop_eq_getElem_cons hlt1,List.drop_eq_getElem_cons hlt2,InS.differ,if_neg hx] at hRR;simp only [Option.map_some,Nat.zero_add] at hRR;have hrl:=Hrl.out;have hp:=fun w h=>Zh5 K s ((s.n:Int)+k) (by omega) (by omega) w h;have hf:=fun w h=>Zfz K s 1 ((s.base:Int)+((s.n:Int)+k)) (by decide) (by omega) w h;unfold ZD at hf;have he2:s.fail (1:Int).toNat ((s.base:Int)+((s.n:Int)+k)).toNat=R.2:=by
           rw [hRR];simp only;rw [ZgU s _ hba (by omega)];congr 1
          have he1:R.1=false:=by rw [hRR]
          rw [he2] at hf;have He1:=Lib.hid he1;clear hRR he2 he1 hrl hx1 hx;go_wp2_with fail
          go_quiet (fail)
          go_wp2_with (first|(go_at_call 115;refine(hp _ (HH0.out.drewN _)).mono ?_;rintro e w3 ⟨rfl,rfl⟩)|(go_at_call 111;refine(hf _ (HH0.out.drewN _)).mono ?_;rintro e w3 ⟨rfl,h3,hb3⟩))
          show P (.returned (.bool false)) _
          rw [←hP];exact⟨by rw [He1.out],h3,(But.of (below_drewN HB0.out _)).trans (hb3.mono (HB0.out.size))⟩
      · have hk:k=r.length:=by omega
        subst hk;have hRR:=HR.out;rw [InS.differ_skip _ l r hk1 hk2 Heq.out,List.drop_length,(InS.differ_nil _).2] at hRR;simp only [Option.map_none] at hRR;have hrl:=Hrl.out;rw [if_pos (by omega)] at hRR;have he1:R.1=false:=by rw [hRR]
        have hf:=fun w h=>Zic K s w h;unfold ZD at hf;have he2:s.short=R.2:=by rw [hRR]
        rw [he2] at hf;have He1:=Lib.hid he1;clear hRR he2 he1 hrl;go_wp2_with (first|(go_at_call 116;refine(hf _ (HH0.out.drewN _)).mono ?_;rintro e w3 ⟨rfl,h3,hb3⟩))
        show P (.returned (.bool false)) _
        rw [←hP];exact⟨by rw [He1.out],h3,(But.of (below_drewN HB0.out _)).trans (hb3.mono (HB0.out.size))⟩
    · have hk:k=l.length:=by omega
      subst hk;have hRR:=HR.out;rw [InS.differ_skip _ l r hk1 hk2 Heq.out,List.drop_length,(InS.differ_nil _).1] at hRR;simp only [Option.map_none] at hRR;have hrl:=Hrl.out;rw [if_neg (by omega)] at hRR;have HRR:=Lib.hid hRR;clear hRR;go_wp2_with fail
      show P (.returned (.bool true)) _
      rw [←hP,HRR.out];exact⟨rfl,(HH0.out.drewN _).nextZ (s.n+l.length) _ (by omega) (by omega),(But.of (below_drewN HB0.out _)).setCell (p:=⟨K,1,none⟩) (.inr rfl) _⟩
 · have hr:=fun w h=>Zep K s w h h0;rw [InS.want,if_pos h0] at hR;have Hs:=Lib.hid hR;clear hR h h0;go_enter Tryz.func53,Tryz.ntmps53
   go_wp2_with (go_at_call 114;refine(hr _ H.out).mono ?_;rintro e w1 ⟨rfl,hb1⟩)
   show P (.returned (.bool false)) _
   rw [←hP,Hs.out];exact⟨rfl,H.out.below hb1,.of hb1⟩
end Go.Proofs.YtnbkfkbcpfkddaaGreatDoor
