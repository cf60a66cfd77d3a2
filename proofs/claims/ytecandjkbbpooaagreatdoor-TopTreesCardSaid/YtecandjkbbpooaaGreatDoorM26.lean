/- Lemmas for a statement on the tops; conditions: as each says. -/
import Derived.Sort.OwnSortedInts
import Derived.Lib.AppendZeros
import Derived.Shelf.SlSortCmp.NoneTotal
import Derived.Test.YtecandjkbbpooaaGreatDoorM3
import Derived.Test.YtecandjkbbpooaaGreatDoorM4
import Derived.Test.YtecandjkbbpooaaGreatDoorM25
set_option linter.unusedVariables false
set_option linter.unusedSimpArgs false
set_option maxRecDepth 100000
set_option maxHeartbeats 4000000
namespace Go.Proofs.YtecandjkbbpooaaGreatDoor
open Go Go.RowKit
def lst (r:Rw)(p:Int):Option Nat:=((prs r).find? fun x=>x.2==p).map (·.1)
theorem lst_eq (r:Rw)(p:Int):lst r p=((List.range r.2.1).find? fun i=>Z4 r i==p).map (r.1+ ·):=by
 unfold lst prs;rw [List.find?_map,Option.map_map];rfl
theorem Zln (r:Rw)(p:Int):(∃k,k<r.2.1∧Z4 r k=p∧(∀j,j<k→Z4 r j≠p)∧lst r p=some (r.1+k))∨((∀j,j<r.2.1→Z4 r j≠p)∧lst r p=none):=by
 rw [lst_eq];cases h:(List.range r.2.1).find? fun i=>Z4 r i==p with
 |none=>
  rw [List.find?_range_eq_none] at h;exact .inr ⟨fun j hj=>by have:=h j hj;simpa using this,rfl⟩
 |some k=>
  rw [List.find?_range_eq_some] at h;obtain⟨h1,h2,h3⟩:=h;exact .inl ⟨k,List.mem_range.1 h2,by simpa using h1,fun j hj=>by have:=h3 j hj;simpa using this,rfl⟩
def ZfE (r:Rw)(p:Int)(w0:World)(e:Ending)(w':World):Prop:=∃z,e= .returned (.tuple #[.int .i64 z,.bool (lst r p).isSome])∧(∀c,lst r p=some c→z=c)∧Below w0.heap.size w0 w'
theorem Zns (x:Rw×Sl)(p:Int)(hp: -2147483648≤p∧p<2147483648)(hx:ZaJ x.1)(w:World)(hs:ZD w w.heap.size x):
 Calls Tryz.prog 369 #[.agg (rV x).toArray,.int .i32 p] w (ZfE x.1 p w):=by
 have hnn:=fun(w:World) (a:Option Addr) (n c:Nat)=>run_neq_slice_nil_any (P:=Tryz.prog) w 308 _ a n c 0 0 Tryz.underlying308;obtain⟨⟨f,n,t,q⟩,v⟩:=x;obtain⟨g1,g2,g3⟩:=hx;simp only at g1 g2 g3;cases q with
 |none=>
  obtain rfl:v=(none,0,0):=hs;simp only at g3;have hlc:=Zln (f,n,t,none) p;simp only [Z4] at hlc;unfold ZfE rV slV;simp only;have e1:∀z:Int, -2147483648≤z∧z≤2147483647→IntKind.i64.wrap z=z:=fun z h=>IntWalk.i64_in _ (by omega);by_cases hpt:t≤p
  · have e2:IntKind.i32.wrap (p - t)=p - t:=IntWalk.i32_in _ (by omega);have e3:IntKind.i64.wrap (p - t)=p - t:=e1 _ (by omega);have e4:IntKind.i64.wrap ((f:Int)+(p - t))=(f:Int)+(p - t):=IntWalk.i64_in _ (by omega);have hr:(lst (f,n,t,none) p).isSome=decide (p - t<n)∧∀c,lst (f,n,t,none) p=some c→(f:Int)+(p - t)=c:=by
     rcases hlc with⟨k,h1,h2,_,h4⟩|⟨h1,h2⟩
     · rw [h4];exact⟨by rw [decide_eq_true (by omega)];rfl,fun c h=>by injection h with h;omega⟩
     · rw [h2];refine⟨?_,fun c h=>by cases h⟩;have:¬p - t<n:=fun h=>h1 (p - t).toNat (by omega) (by omega);rw [decide_eq_false this];rfl
    obtain⟨hr1,hr2⟩:=hr;have Hr2:=Lib.hid hr2;rw [hr1];clear hlc hr1 hr2;go_enter Tryz.func369,Tryz.ntmps369
    go_wp2_with fail
    go_quiet (fail)
    go_wp2_with fail
    go_ret2
    exact⟨_,rfl,Hr2.out,below_drewN ((Below.refl _ w).alloc (Nat.le_refl _) _) _⟩
  · have hr:lst (f,n,t,none) p=none:=by
     rcases hlc with⟨k,h1,h2,_,h4⟩|⟨h1,h2⟩
     · omega
     · exact h2
    have Hr:=Lib.hid hr;rw [hr];clear hlc hr;go_enter Tryz.func369,Tryz.ntmps369
    go_wp2_with fail
    have hd:decide (t≤p)=false:=decide_eq_false (by omega);have hB0:∀o,Below w.heap.size w (w.alloc o).drew:=fun o=>((Below.refl _ w).alloc (Nat.le_refl _) _).drew;refine ZeL (fun w'=>w'.cell? ⟨w.heap.size,0,none⟩=some (.int .i64 (f:Int))∧w'.cell? ⟨w.heap.size,2,none⟩=some (.int .i32 t)) [(0,true),(1,true),(2,true),(3,true),(4,true),(5,true),(6,true),(7,true),(8,true),(9,true),(10,true),(11,true),(12,true),(13,true),(14,true),(15,true),(16,true),(17,true),(18,true),(19,true),(20,true),(21,true),(22,true),(23,true)] (by kernel_rfl) (by kernel_rfl) (by kernel_rfl) (Nat.le_of_ble_eq_true rfl) (fun _ _ d _ _ h=>by cases d<;>exact h) (by constructor<;>(show(w.alloc _).cell? _=_;rw [cell_of_row _ w.heap.size _ _ 310 (0,0) (heap_alloc_new w _)];rfl)) ?_
    repeat (first
     |(refine ZhX rfl (by rfl) ?_;try simp only [Act.put,List.setIfInBounds_toArray,List.set_cons_zero,List.set_cons_succ];try rw [hd])
     |(refine' ZbS rfl (by rfl) _ (fun W hSw=>_) _;rotate_left;(obtain⟨sw0,sw2⟩:=hSw;go_simp;try with_reducible rfl);try simp only [Act.put,List.setIfInBounds_toArray,List.set_cons_zero,List.set_cons_succ];try rw [hd]))
    refine ZdT ?_;go_wp2_with fail
    go_ret2
    exact⟨_,rfl,(fun c h=>by cases h),hB0 _⟩
 |some l=>
  obtain⟨ad,cp,cs,fr,hv,hcp,hbk,hsp,hh,hcs⟩:=hs;have hcell:∀j,j<l.length→w.cell? (ad.add j)=some (.int .i32 (l.getD j 0)):=fun j hj=>(ZgE hsp hh j).trans (hcs j hj);clear hcs hh;simp only at hv hcp hcell g3;obtain⟨rfl,g4,_⟩:=g3;subst hv;subst g4;obtain⟨bk,off,sp⟩:=ad;simp only at hsp hbk;subst hsp;have hadd:∀j,(⟨bk,off,none⟩:Addr).add j=⟨bk,off+j,none⟩:=fun j=>by unfold Addr.add;split<;>simp_all
  have hget:∀j,j<l.length→l[j]! =l.getD j 0:=fun j hj=>by rw [getElem!_pos l j hj,List.getD,List.getElem?_eq_getElem hj];rfl
  have hlc:=Zln (f,l.length,0,some l) p;simp only [Z4] at hlc;have hix:∀(o:Obj),Calls Tryz.prog 388 #[.slice (some ⟨bk,off,none⟩) l.length cp,.int .i32 p] (w.alloc o) fun e w'=>e= .returned (.int .i64 (Lib.idxBy (fun x y:Int=>x==y) (l.take l.length) p))∧(w.alloc o)=w':=fun o=>by
   have:=AnyE.slices_Index Tryz.laysIdx (Value.int .i32) (fun x y=>x==y) (EqlAt.int _ _ .i32) bk off l.length cp l p (w.alloc o) (Nat.le_refl _) (by omega) (fun j hj=>by
    rw [World.cell?_alloc_lt _ _ _ hbk,hget j hj,←hadd];exact hcell j hj)
   change Calls Tryz.prog 388 _ _ _ at this
   exact this.mono fun e w' h=>⟨h.1,h.2.symm⟩
  unfold ZfE rV slV;simp only;have hr:∃z:Int,Lib.idxBy (fun x y:Int=>x==y) (l.take l.length) p=z∧ -1≤z∧z<1048576∧(lst (f,l.length,0,some l) p).isSome=decide (0≤z)∧∀c,lst (f,l.length,0,some l) p=some c→(f:Int)+z=c:=by
   rcases hlc with⟨k,h1,h2,h3,h4⟩|⟨h1,h2⟩
   · refine⟨k,Lib.idxBy_hit _ l l.length k p (by omega) (Nat.le_refl _) ?_ ?_,by omega,by omega,?_,?_⟩
     · rw [hget k (by omega),h2];simp
     · intro j hj;rw [hget j (by omega)];have:=h3 j hj;exact beq_eq_false_iff_ne.2 (fun e=>this e.symm)
     · rw [h4,decide_eq_true (by omega)];rfl
     · intro c hc;rw [h4] at hc;injection hc with hc
       omega
   · refine⟨-1,Lib.idxBy_miss _ l l.length p (fun j hj=> ?_),by omega,by omega,?_,?_⟩
     · rw [hget j hj];have:=h1 j (by omega);exact beq_eq_false_iff_ne.2 (fun e=>this e.symm)
     · rw [h2];rfl
     · intro c hc;rw [h2] at hc;cases hc
  obtain⟨z,hz,hz1,hz2,hz3,hz4⟩:=hr;rw [hz] at hix;have Hz4:=Lib.hid hz4;have e1:IntKind.i64.wrap ((f:Int)+z)=(f:Int)+z:=IntWalk.i64_in _ (by omega);rw [hz3];clear hlc hz hz3 hz4 hcell hget hadd;go_enter Tryz.func369,Tryz.ntmps369
  go_wp2_with (go_at_call 388;refine(hix _).mono ?_;rintro e w1 ⟨rfl,rfl⟩)
  go_ret2
  exact⟨_,rfl,Hz4.out,(Below.refl _ w).alloc (Nat.le_refl _) _⟩
theorem ZpU (x y:Rw×Sl)(W:World):
 Calls Tryz.prog 341 #[.agg (rV x).toArray,.agg (rV y).toArray] W fun e w'=>e= .returned (.int .i64 (Lib.compareInt (x.1.1:Int) (y.1.1:Int)))∧∃q os',w'=Go.Sort.grow (W.drewN q) os':=by
 have hcon:=fun W'=>Tryz.cmp_Compare_int (x.1.1:Int) (y.1.1:Int) W';generalize Lib.compareInt (x.1.1:Int) (y.1.1:Int)=r at hcon⊢;have hcon:∀W,Calls Tryz.prog 342 #[.int .i64 (x.1.1:Int),.int .i64 (y.1.1:Int)] W fun e w'=>e= .returned (.int .i64 r)∧W=w':=fun W=>(hcon W).mono fun e w' h=>⟨h.1,h.2.symm⟩
 unfold rV slV;go_enter Tryz.func341,Tryz.ntmps341
 go_wp2_with (go_at_call 342;refine(hcon _).mono ?_;rintro e w' ⟨rfl,rfl⟩)
 go_ret
 exact⟨rfl,0,_,by rw [Go.Sort.alloc_eq_grow,Go.Sort.alloc_eq_grow,Go.Sort.grow_grow];rfl⟩
def cfR (x y:Rw×Sl):Int:=Lib.compareInt (x.1.1:Int) (y.1.1:Int)
theorem Zgk (x y:Rw×Sl):ltOf cfR x y=decide (x.1.1<y.1.1):=by
 unfold ltOf cfR Lib.compareInt;by_cases h1:x.1.1<y.1.1
 · simp [h1]
 · by_cases h2:y.1.1<x.1.1<;>simp [h1,h2]
theorem Ztz:Go.Sort.SWO (ltOf cfR):=
 ⟨fun x=>by rw [Zgk];simp,fun x y z h1 h2=>by rw [Zgk] at*;simp at*;omega,fun x y z h1 h2=>by rw [Zgk] at*;simp at*;omega⟩
theorem ZpT (blk off size:Nat)(w:World):CmpLays Tryz.prog 341 #[] rV 4 cfR blk off size w:=
 fun _ _ _ _ x y=>ZpU x y _
theorem Zml:∀x:Rw×Sl,∀v∈rV x,v.oneCell'=true:=fun x v hv=>by
 simp only [rV,slV,List.mem_cons,List.not_mem_nil,or_false] at hv;rcases hv with rfl|rfl|rfl|rfl<;>rfl
theorem Zf9 {α:Type} (f:α→List Value)(hf:∀x,(f x).length=4):∀(l:List α) (k i:Nat) (x:α),l[k]? =some x→i<4→(l.flatMap f)[k*4+i]? =(f x)[i]?
 |[],k,i,x,h,_=>by simp at h
 |a::l,0,i,x,h,hi=>by
  simp at h;subst h;rw [List.flatMap_cons,Nat.zero_mul,Nat.zero_add,List.getElem?_append_left (by rw [hf];exact hi)]
 |a::l,k+1,i,x,h,hi=>by
  rw [List.flatMap_cons,List.getElem?_append_right (by rw [hf];omega),hf,show(k+1)*4+i - 4=k*4+i by omega];exact Zf9 f hf l k i x (by simpa using h) hi
theorem Zfa {α:Type} (f:α→List Value)(hf:∀x,(f x).length=4):∀l:List α,(l.flatMap f).length=l.length*4
 |[]=>rfl
 |a::l=>by rw [List.flatMap_cons,List.length_append,hf,Zfa f hf l,List.length_cons];omega
theorem flat_get (ts:List (Rw×Sl))(j:Nat)(hj:j<ts.length*4):some (Go.Sort.flatK rV 4 ts.toArray)[j]! =(ts.flatMap rV)[j]?:=by
 have hk:j / 4<ts.length:=by omega
 have he:j=j / 4*4+j % 4:=by omega
 rw [Go.Sort.get_flatK _ _ _ _ (by simpa using hj)]
 conv=>rhs;rw [he]
 rw [Zf9 rV ZdY ts (j / 4) (j % 4) ts[j / 4] (List.getElem?_eq_getElem hk) (Nat.mod_lt _ (by omega))];have e1:ts.toArray[j / 4]! =ts[j / 4]:=by simp [hk]
 have hlt:j % 4<(rV ts[j / 4]).length:=by rw [ZdY];exact Nat.mod_lt _ (by omega)
 rw [e1,List.getElem?_eq_getElem hlt,getElem!_pos (rV ts[j / 4]) (j % 4) hlt]
theorem Zrk {w:World} {base g cap:Nat} {e:TypeId} {ts:List (Rw×Sl)} (h:w.ownsRow base e 4 (.slice (some ⟨g,0,none⟩) ts.length cap) ts.length (ts.flatMap rV)):Go.Sort.HoldsK rV 4 w g 0 ts.toArray:=by
 intro j hj;have hj':j<ts.length*4:=by simpa using hj
 have hl:(ts.flatMap rV).length=ts.length*4:=h.1;refine⟨?_,?_⟩
 · rw [Nat.zero_add,h.cellAt j hj',←flat_get ts j hj'];rfl
 · rw [Nat.zero_add];exact h.frozenAt j
theorem ZhP {w:World} {g n:Nat} {os:Array Obj} (d:Array (Rw×Sl)):w.grownBy (sortWorldK rV 4 w g 0 n d os) (some g):=by
 unfold sortWorldK Go.Sort.putRowK;refine⟨rfl,rfl,rfl,by simp,fun k hk hne=> ?_⟩;rw [Go.Sort.heap_grow_old _ _ (by simpa using hk)];have:g≠k:=fun e=>hne (by rw [e]);simp [Go.Sort.putRow,Go.Sort.mapBlock,Go.Sort.ahead,Array.getElem?_modify,this]
def Zcq (w:World)(B:Nat)(A:Option Addr)(rs:List (Rw×Sl)):Prop:=Reads w B 4 A rs.length (rs.flatMap rV)∧∀ad,A=some ad→ad.spot=none
def SfPost (base g:Nat)(rs:List (Rw×Sl))(w0:World)(e:Ending)(w':World):Prop:=
 e= .returned (.tuple #[])∧∃rs':List (Rw×Sl),rs'.Perm rs∧rs'.Pairwise (fun a b=>a.1.1≤b.1.1)∧(∀j u,(rs'.flatMap rV)[j]? =some u→w'.cell? ⟨g,j,none⟩=some u)∧w0.heap.size≤w'.heap.size∧Below base w0 w'∧w0.grownBy w' (some g)
theorem ZoW (base g cap:Nat)(rs:List (Rw×Sl))(w:World)(h:w.ownsRow base 310 4 (.slice (some ⟨g,0,none⟩) rs.length cap) rs.length (rs.flatMap rV))(hbase:base≤w.heap.size)(hn:rs.length<4611686018427387904):
 Calls Tryz.prog 340 #[.slice (some ⟨g,0,none⟩) rs.length cap,.func (.func 341) #[] #[]] w (SfPost base g rs w):=by
 have hlt:=(h.lt g rfl)
 have eg:∀args w,(callFunc 341 args).run Tryz.prog w= .ok (.enter 341 args) w:=enters_of Tryz.func341 (by kernel_rfl) rfl;have hH:=Zrk h;have hcon:=AnyQ.slices_SortFunc Tryz.laysSort 4 Tryz.isAgg310 Tryz.sizeOf310 rV ZdY Zml cfR Ztz 341 #[] g 0 cap rs.toArray w eg (ZpT g 0 rs.toArray.size w) hH hlt.2 (by simpa using hn);change Calls Tryz.prog 340 _ _ _ at hcon
 have hsz:rs.toArray.size=rs.length:=by simp
 rw [hsz] at hcon;refine hcon.mono ?_;rintro e w' ⟨rfl,d',n,os,hp,hs,rfl⟩;obtain⟨hp1,_,hp3⟩:=hp;have hd:d'.size=rs.length:=by rw [hp1,hsz]
 have hx1:d'.extract 0 rs.length=d':=by rw [←hd];simp
 have hx2:rs.toArray.extract 0 rs.length=rs.toArray:=by simp
 rw [hx1,hx2] at hp3;have hK:=holdsK_sortWorldK rV 4 w g 0 n rs.toArray d' os hlt.2 hH (by rw [hd,hsz]);refine⟨rfl,d'.toList,by simpa using hp3,?_,fun j u hu=> ?_,?_,?_,ZhP d'⟩
 · rw [List.pairwise_iff_getElem];intro i j hi hj hij;simp only [Array.length_toList] at hi hj;have:=hs i j (Nat.zero_le _) hij (by omega);rw [Zgk,decide_eq_false_iff_not,getElem!_pos d' j hj,getElem!_pos d' i hi] at this;simp only [Array.getElem_toList];omega
 · have hl:(d'.toList.flatMap rV).length=d'.size*4:=by rw [Zfa rV ZdY];simp
   have hj:j<d'.size*4:=by
    rcases Nat.lt_or_ge j (d'.size*4) with h1|h1
    · exact h1
    · rw [List.getElem?_eq_none (by omega)] at hu;cases hu
   have h1:=(hK j (by rw [Go.Sort.size_flatK];exact hj)).1;have h2:=flat_get d'.toList j (by simpa using hj);rw [hu] at h2;rw [Nat.zero_add] at h1;rw [h1,←h2];rfl
 · exact(ZhP (os:=os) (n:=n) d').size
 · exact(Below.refl base w).grown (ZhP d') hbase fun k hk=>by injection hk with hk;omega
end Go.Proofs.YtecandjkbbpooaaGreatDoor
namespace Go.Proofs.YtecandjkbbpooaaGreatDoor
open Go Go.RowKit Go.Lib
theorem ZiX (zv:Value)(m:Nat):Builtin.zeroCells #[zv] m=(List.replicate m zv).toArray:=by
 unfold Builtin.zeroCells;apply Array.ext
 · simp
 · intro i h1 h2;simp [Nat.mod_one]
section
variable {P:Program}
theorem ZsS (w:World)(base:Nat)(t tn ty e:TypeId)(i:TypeInfo)(z zv:Value)(ht:P.underlying t=some (.slice e))(htn:P.underlying tn=some (.int .i64))(hi:P.info? e=some i)(hz:i.zero=some z)
 (hsize:i.size=1) (hby:i.bytes=1) (hzc:z.cells=#[zv]) (h1:zv.oneCell'=true) (v:Value) (n:Nat) (xs:List Value) (hown:w.ownsRow base e 1 v n xs) (m:Nat) (hm:0<m) (hN:n+m≤2000000) (hbase:base≤w.heap.size):
 ∃v' w',(Builtin.append_ #[t,tn] ty #[v,.int .i64 m]).run P w= .ok v' w'∧w'.ownsRow base e 1 v' (n+m) (xs++List.replicate m zv)∧w.grownBy w' v.ownBlock:=by
 have hlen:(xs++List.replicate m zv).length=(n+m)*1:=by rw [List.length_append,hown.1];simp
 have hw:IntKind.i64.wrap (m:Int)=m:=by rw [IntKind.wrap_i64];omega
 have hneg:¬((m:Int)<0):=by omega
 have h48i:¬(281474976710656<(m:Int)):=by omega
 have hm0:¬m=0:=by omega
 have h1a:∀u∈List.replicate m zv,u.oneCell'=true:=fun u hu=>by rw [List.eq_of_mem_replicate hu];exact h1
 have grown:∀(old:Nat),old<n+m→∀(row:Option Nat),
  (w.drew.alloc (.cells (xs.toArray++(List.replicate m zv).toArray++Builtin.zeroCells z.cells (grownCap w (n+m) old e - (n+m))) e)).ownsRow base e 1
   (.slice (some ⟨w.heap.size,0,none⟩) (n+m) (grownCap w (n+m) old e)) (n+m) (xs++List.replicate m zv)∧
  w.grownBy (w.drew.alloc (.cells (xs.toArray++(List.replicate m zv).toArray++Builtin.zeroCells z.cells (grownCap w (n+m) old e - (n+m))) e)) row:=by
  intro old ho row;have hge:=grownCap_ge w (n+m) old e;have hcm:grownCap w (n+m) old e≤maxLen:=grownCap_le_maxLen w (n+m) old e (by unfold maxLen;omega);refine⟨⟨hlen,.inr ⟨w.heap.size,_,_,rfl,hbase,heap_alloc_new w.drew _,hge,hcm,?_,?_⟩⟩,⟨rfl,rfl,rfl,by simp,fun k hk _=>by apply heap_alloc_old;exact hk⟩⟩
  · rw [hzc];simp only [Array.size_append,List.size_toArray,size_zeroCells,hown.1,List.length_replicate];simp;omega
  · simp only [Array.toList_append,List.append_assoc];rw [←List.append_assoc,←hlen];exact List.take_left
 rcases hown.2 with⟨rfl,rfl⟩|⟨g,cap,cur,rfl,hbg,hg,hnc,hcm,hcs,htake⟩
 · have hx:xs=[]:=List.eq_nil_of_length_eq_zero (by simpa using hown.1);subst hx;have hr:=run_append_nil_zeros (P:=P) w t tn ty e i z .i64 .i64 ht htn hi hz m hm (by omega) (by omega) (by rw [hby];omega);have hgr:=grown 0 (by omega) (Value.ownBlock (.slice none 0 0));rw [hzc,ZiX] at hr;simp only [Nat.zero_add,List.nil_append,Array.empty_append,hzc] at hgr⊢;exact⟨_,_,hr,hgr.1,hgr.2⟩
 · by_cases hroom:n+m≤cap
   · have hfit:n*1+(List.replicate m zv).length≤cur.size:=by rw [hcs];simp;omega
     have hst:=run_storeCells_at P g (n*1) e (List.replicate m zv) 0 cur w hg (by simpa using hfit) h1a;simp only [Nat.add_zero] at hst;have hr:(Builtin.append_ #[t,tn] ty #[.slice (some ⟨g,0,none⟩) n cap,.int .i64 m]).run P w= .ok (.slice (some ⟨g,0,none⟩) (n+m) cap) (w.setRow g (cur.toList.take (n*1)++List.replicate m zv++cur.toList.drop (n*1+(List.replicate m zv).length)).toArray):=by
      simp [Builtin.append_,run_underlying ht,run_underlying htn,sizeOf,typeInfo,zeroValue,hi,hz,hsize,hby,hzc,ZiX,asInt,asIntOf,hw,hneg,h48i,hroom,hm0,Addr.add_lit,Nat.mul_one] at hst⊢;rw [hst];rfl
     refine⟨_,_,hr,⟨hlen,.inr ⟨g,cap,_,rfl,hbg,setRow_heap w g cur _ e _ hg,hroom,hcm,?_,?_⟩⟩,⟨rfl,rfl,rfl,by simp,fun k _ hk=>setRow_other w g k _ (fun e=>hk (by simp [Value.ownBlock,e]))⟩⟩
     · simp only [List.size_toArray,List.length_append,List.length_take,List.length_drop,Array.length_toList];omega
     · rw [htake,←hlen];exact List.take_left
   · have holds:∀j u,xs[j]? =some u→w.cell? ((⟨g,0,none⟩:Addr).add j)=some u:=hown.cells (g:=g) rfl;have hn:¬(n+m≤cap):=by omega
     have h63':¬(9223372036854775807<((n:Int)+(m:Int))):=by omega
     have h48':¬(281474976710656<Builtin.nextslicecap (n+m) cap):=by
      have:=growslice_fits (need:=n+m) (bytes:=1) (by omega:cap<n+m) (by omega);omega
     have hfo:=run_firstCells_some (P:=P) w.drew 1 n ⟨g,0,none⟩ n cap xs hown.1 (by simpa using holds);have hr:(Builtin.append_ #[t,tn] ty #[.slice (some ⟨g,0,none⟩) n cap,.int .i64 m]).run P w= .ok (.slice (some ⟨w.heap.size,0,none⟩) (n+m) (grownCap w (n+m) cap e)) (w.drew.alloc (.cells (xs.toArray++(List.replicate m zv).toArray++Builtin.zeroCells z.cells (grownCap w (n+m) cap e - (n+m))) e)):=by
      simp [Builtin.append_,run_underlying ht,run_underlying htn,sizeOf,typeInfo,zeroValue,hi,hz,hsize,hby,hzc,ZiX,asInt,asIntOf,hw,hneg,h48i,hn,h63',h48',hm0,Question.forced,hfo,newRow,grownCap]
     have hgr:=grown cap (by omega) (Value.ownBlock (.slice (some ⟨g,0,none⟩) n cap));exact⟨_,_,hr,hgr.1,hgr.2⟩
end
end Go.Proofs.YtecandjkbbpooaaGreatDoor
namespace Go.Proofs.YtecandjkbbpooaaGreatDoor
open Go Go.RowKit
def ZgT (base:Nat)(v:Value)(rs:List (Rw×Sl))(w0:World)(e:Ending)(w':World):Prop:=
 e= .returned (.tuple #[])∧∃A c,∃rs':List (Rw×Sl),v= .slice A rs.length c∧rs.length≤c∧rs'.Perm rs∧rs'.Pairwise (fun a b=>a.1.1≤b.1.1)∧Zcq w' w'.heap.size A rs'∧Below base w0 w'∧w0.grownBy w' v.ownBlock
theorem Zi0 (base:Nat)(v:Value)(rs:List (Rw×Sl))(w:World)(h:w.ownsRow base 310 4 v rs.length (rs.flatMap rV))(hbase:base≤w.heap.size)(hn:rs.length<4611686018427387904):
 Calls Tryz.prog 312 #[v] w (ZgT base v rs w):=by
 have hfin:∃A c,v= .slice A rs.length c∧rs.length≤c∧Calls Tryz.prog 340 #[.slice A rs.length c,.func (.func 341) #[] #[]] w (ZgT base v rs w):=by
  by_cases h0:rs=[]
  · subst h0;obtain⟨A,c,hv,hc,_⟩:=Reads.of_own h;refine⟨A,c,hv,hc,?_⟩;have:=AnyF.slices_SortFunc_none Tryz.laysSort A c (.func (.func 341) #[] #[]) w;change Calls Tryz.prog 340 _ _ _ at this
    refine this.mono ?_;rintro e w' ⟨rfl,rfl⟩;refine⟨rfl,A,c,[],hv,hc,List.Perm.refl _,by simp,⟨Reads.none_,?_⟩,Below.refl _ _,⟨rfl,rfl,rfl,Nat.le_refl _,fun _ _ _=>rfl⟩⟩;intro ad hA;subst hA;rw [hv] at h;exact ZlI h
  · have hpos:0<rs.length:=List.length_pos_iff.2 h0;rcases h.2 with⟨_,h2⟩|⟨g,cap,cur,rfl,hbg,hg,hnc,hcm,hcs,htake⟩
    · omega
    · refine⟨_,cap,rfl,hnc,?_⟩;refine(ZoW base g cap rs w h hbase hn).mono ?_;rintro e w' ⟨rfl,rs',h1,h2,h3,h4,h5,h6⟩;have hlt:=(h.lt g rfl).2;refine⟨rfl,_,cap,rs',rfl,hnc,h1,h2,⟨⟨Zfa rV ZdY rs',fun _=>⟨_,rfl,by show g<_;omega,fun j u hu=> ?_⟩⟩,fun ad had=>by injection had with had;subst had;rfl⟩,h5,h6⟩;rw [addr_eq rfl];simpa using h3 j u hu
 obtain⟨A,c,hv,hc,hs⟩:=hfin;generalize hP:ZgT base v rs w=P at*;subst hv;go_enter Tryz.func312,Tryz.ntmps312
 go_wp2_with (go_at_call 340;refine hs.mono ?_;intro e w1 hp1;have he:e= .returned (.tuple #[]):=(by rw [←hP] at hp1;exact hp1.1);subst he)
 go_end0
 exact hp1
def ZbV (l:List Bool)(a b:Nat):List Bool:=l.mapIdx fun j x=>x||(decide (a≤j)&&decide (j<b))
theorem ZeH (l:List Bool)(a b:Nat):(ZbV l a b).length=l.length:=by simp [ZbV]
theorem Ziw (l:List Bool)(a b c:Nat)(hc:c<l.length):(ZbV l a b)[c]? =some (l[c]||(decide (a≤c)&&decide (c<b))):=by
 unfold ZbV;rw [List.getElem?_mapIdx,List.getElem?_eq_getElem hc];rfl
theorem ZmD (l:List Bool)(a:Nat):ZbV l a a=l:=by
 apply List.ext_getElem?
 intro j;unfold ZbV;rw [List.getElem?_mapIdx];cases l[j]? with
 |none=>rfl
 |some x=>
  simp only [Option.map_some];congr 1
  by_cases h:a≤j
  · rw [decide_eq_false (by omega:¬j<a)];simp
  · rw [decide_eq_false h];simp
theorem ZmC (l:List Bool)(a c:Nat)(h:a≤c):ZbV l a (c+1)=(ZbV l a c).set c true:=by
 apply List.ext_getElem?
 intro j;rw [List.getElem?_set];unfold ZbV;rw [List.getElem?_mapIdx,List.getElem?_mapIdx,List.length_mapIdx];by_cases hj:c=j
 · subst hj;rw [if_pos rfl];by_cases hl:c<l.length
   · rw [if_pos hl,List.getElem?_eq_getElem hl];simp only [Option.map_some];rw [decide_eq_true h,decide_eq_true (by omega:c<c+1)];simp
   · rw [if_neg hl,List.getElem?_eq_none (by omega)];rfl
 · rw [if_neg hj];cases l[j]? with
   |none=>rfl
   |some x=>
    simp only [Option.map_some];have:decide (j<c+1)=decide (j<c):=decide_eq_decide.2 (by omega);rw [this]
def Zdf (bits:List Bool)(acc:List Rw):Prop:=(∀r∈acc,r.1+r.2.1≤bits.length)∧∀c,c<bits.length→bits[c]? =some (acc.any fun q=>decide (q.1≤c)&&decide (c<q.1+q.2.1))
theorem Ztf:Zdf [] []:=⟨by simp,by simp⟩
theorem Zte {bits:List Bool} {acc:List Rw} (h:Zdf bits acc)(m:Nat):Zdf (bits++List.replicate m false) acc:=by
 obtain⟨h1,h2⟩:=h;refine⟨fun r hr=>by have:=h1 r hr;simp;omega,fun c hc=> ?_⟩;by_cases hl:c<bits.length
 · rw [List.getElem?_append_left hl];exact h2 c hl
 · simp only [List.length_append,List.length_replicate] at hc;rw [List.getElem?_append_right (by omega),List.getElem?_replicate,if_pos (by omega)];congr 1
   symm
   rw [List.any_eq_false];intro q hq;have:=h1 q hq;simp;omega
theorem ZmA {bits:List Bool} {acc:List Rw} {r:Rw} {c:Nat} (h:Zdf bits acc)(hc:r.1≤c∧c<r.1+r.2.1)(hb:bits[c]? =some true):ovl acc r=true:=by
 have hl:c<bits.length:=by
  rcases Nat.lt_or_ge c bits.length with h1|h1
  · exact h1
  · rw [List.getElem?_eq_none h1] at hb;cases hb
 rw [h.2 c hl] at hb;injection hb with hb
 obtain⟨q,hq,hq2⟩:=List.any_eq_true.1 hb;refine List.any_eq_true.2 ⟨q,hq,?_⟩;simp only [Bool.and_eq_true,decide_eq_true_eq] at hq2⊢;omega
theorem ZmB {bits:List Bool} {acc:List Rw} {r:Rw} (h:Zdf bits acc)(hok:∀q∈acc,1≤q.2.1)(hr:1≤r.2.1)(he:r.1+r.2.1≤bits.length)(hb:∀c,r.1≤c→c<r.1+r.2.1→bits[c]? =some false):
 ovl acc r=false∧Zdf (ZbV bits r.1 (r.1+r.2.1)) (acc++[r]):=by
 constructor
 · rw [ovl,List.any_eq_false];intro q hq hc;simp only [Bool.and_eq_true,decide_eq_true_eq] at hc;have h1:=hok q hq;have h2:=hb (max q.1 r.1) (by omega) (by omega);rw [h.2 _ (by omega)] at h2;injection h2 with h2
   have h3:=List.any_eq_false.1 h2 q hq;simp only [Bool.and_eq_true,decide_eq_true_eq,not_and] at h3;omega
 · refine⟨fun q hq=> ?_,fun c hc=> ?_⟩
   · rw [ZeH];rcases List.mem_append.1 hq with h1|h1
     · exact h.1 q h1
     · simp only [List.mem_singleton] at h1;subst h1;exact he
   · rw [ZeH] at hc;rw [Ziw _ _ _ _ hc];have h2:=h.2 c hc;rw [List.getElem?_eq_getElem hc] at h2;injection h2 with h2
     rw [h2,List.any_append];simp
theorem Zir:(Tryz.prog.info? 310).map (fun i=>(i.zero,i.size,i.bytes))=some (some (.agg #[.int .i64 0,.int .i64 0,.int .i32 0,.slice none 0 0]),4,48):=by kernel_rfl
theorem ZpD:(Tryz.prog.info? 4).map (fun i=>(i.zero,i.size,i.bytes))=some (some (.bool false),1,1):=by kernel_rfl
theorem Zh9 {w:World} {b1 b2 s1 s2 n1 n2:Nat} {e1 e2:TypeId} {v1:Value} {g c:Nat} {x1 x2:List Value} (h1:w.ownsRow b1 e1 s1 v1 n1 x1)(h2:w.ownsRow b2 e2 s2 (.slice (some ⟨g,0,none⟩) n2 c) n2 x2)(hne:e1≠e2):v1.ownBlock≠some g:=by
 rcases h1.2 with⟨rfl,_⟩|⟨g1,cap,cur,rfl,hb,hg,rest⟩
 · simp [Value.ownBlock]
 · rcases h2.2 with⟨h,_⟩|⟨g2,cap2,cur2,he,hb2,hg2,rest2⟩
   · cases h
   · injection he with he
     injection he with he
     injection he with he
     subst he;simp only [Value.ownBlock,ne_eq,Option.some.injEq];rintro rfl;rw [hg] at hg2;injection hg2 with hg2
     injection hg2 with _ h2 _
     exact hne h2
theorem Zia {w:World} {b1 b2 s1 s2 n1 n2:Nat} {e1 e2:TypeId} {v1 v2:Value} {x1 x2:List Value} (h1:w.ownsRow b1 e1 s1 v1 n1 x1)(h2:w.ownsRow b2 e2 s2 v2 n2 x2)(hne:e1≠e2):v1.ownBlock=none∨v1.ownBlock≠v2.ownBlock:=by
 rcases h2.2 with⟨rfl,_⟩|⟨g2,cap2,cur2,rfl,hb2,hg2,rest2⟩
 · cases h:v1.ownBlock with
   |none=>exact .inl rfl
   |some k=>exact .inr (by simp [Value.ownBlock])
 · exact .inr (Zh9 h1 h2 hne)
theorem Zck {w w':World} {B b s n:Nat} {e:TypeId} {v:Value} {xs:List Value} {x:Rw×Sl} (h:ZD w B x)(hown:w.ownsRow b e s v n xs)(hne:e≠21)(hg:w.grownBy w' v.ownBlock)(hB:B≤w.heap.size):ZD w' B x:=
 h.keep fun k hk ⟨cs,fr,hh⟩=>by
  refine hg.block k (by omega) ?_;rcases hown.2 with⟨rfl,_⟩|⟨g,cap,cur,rfl,hb,hg2,rest⟩
  · simp [Value.ownBlock]
  · simp only [Value.ownBlock,ne_eq,Option.some.injEq];rintro rfl;rw [hh] at hg2;injection hg2 with hg2
    injection hg2 with _ h2 _
    exact hne h2.symm
theorem Zw {w w1:World} {K:Nat} {o:Obj} (h:w.heap[K]? =some o)(hb:Below w.heap.size w w1):w1.heap[K]? =some o:=
 (hb.block K (Array.getElem?_eq_some_iff.1 h).1).trans h
def ZbB (w:World)(rs:List (Rw×Sl)):Prop:=∀x∈rs,ZaJ x.1∧ZD w w.heap.size x
theorem ZbB.below {w w':World} {rs:List (Rw×Sl)} (h:ZbB w rs)(hb:Below w.heap.size w w'):ZbB w' rs:=fun x hx=>⟨(h x hx).1,((h x hx).2.below hb).more hb.size⟩
theorem ZbB.grown {w w':World} {b s n:Nat} {e:TypeId} {v:Value} {xs:List Value} {rs:List (Rw×Sl)} (h:ZbB w rs)(hown:w.ownsRow b e s v n xs)(hne:e≠21)(hg:w.grownBy w' v.ownBlock):ZbB w' rs:=
 fun x hx=>⟨(h x hx).1,(Zck (h x hx).2 hown hne hg (Nat.le_refl _)).more hg.size⟩
def NwOk (l:List Pce)(rs:List (Rw×Sl)):Prop:=∃rs0:List (Rw×Sl),Zau [] l 0= .inl (rs0.map (·.1))∧rs.Perm rs0∧rs.Pairwise fun a b=>a.1.1≤b.1.1
def ZfN (l:List Pce)(w0:World)(e:Ending)(w':World):Prop:=
 ((∃A c rs,NwOk l rs∧rs.length≤c∧Zcq w' w'.heap.size A rs∧ZbB w' rs∧e= .returned (.tuple #[.agg #[.slice A rs.length c],.agg #[.int .i64 0,.int .i64 0]]))∨
   ∃k:Nat,Zau [] l 0= .inr k∧e= .returned (.tuple #[.agg #[.slice none 0 0],.agg #[.int .i64 5,.int .i64 k]]))∧Below w0.heap.size w0 w'
def NwRel (l:List Pce)(base:Nat)(W0:World)(v4 v5 i:Value)(wr:World):Prop:=∃(k:Nat) (rs:List (Rw×Sl)) (bits:List Bool),k≤l.length∧i= .int .i64 k∧Zau [] l 0=Zau (rs.map (·.1)) (l.drop k) k∧rs.length≤k∧
 wr.ownsRow base 310 4 v4 rs.length (rs.flatMap rV)∧wr.ownsRow base 4 1 v5 bits.length (bits.map Value.bool)∧Zdf bits (rs.map (·.1))∧bits.length≤1048576∧ZbB wr rs∧Below base W0 wr
def IwRel (base:Nat)(W0:World)(r:Rw)(q:Sl)(rs:List (Rw×Sl))(v4:Value)(g5 c5:Nat)(bits:List Bool)(B8:Nat)(i:Value)(wr:World):Prop:=∃c:Nat,r.1≤c∧c≤r.1+r.2.1∧i= .int .i64 c∧(∀j,r.1≤j→j<c→bits[j]? =some false)∧
 wr.ownsRow base 4 1 (.slice (some ⟨g5,0,none⟩) bits.length c5) bits.length ((ZbV bits r.1 c).map Value.bool)∧wr.ownsRow base 310 4 v4 rs.length (rs.flatMap rV)∧ZbB wr rs∧ZD wr wr.heap.size (r,q)∧
 wr.heap[B8]? =some (.cells #[.int .i64 (r.1:Int),.int .i64 (r.2.1:Int),.int .i32 r.2.2.1,.slice q.1 q.2.1 q.2.2] 310 (0,0))∧Below base W0 wr
theorem ZlH {w:World} {base:Nat} {e:TypeId} {s n:Nat} {v:Value} {xs:List Value} (h:w.ownsRow base e s v n xs)(hn:0<n):∃g c,v= .slice (some ⟨g,0,none⟩) n c:=by
 rcases h.2 with⟨_,h⟩|⟨g,cap,cur,h,_⟩
 · omega
 · exact⟨g,cap,h⟩
theorem Zgf {w:World} {base:Nat} {e e':TypeId} {s n:Nat} {v:Value} {xs:List Value} (h:w.ownsRow base e s v n xs){K:Nat} {cs:Array Value} {fr:Nat×Nat} (hk:w.heap[K]? =some (.cells cs e' fr))(hne:e≠e'):some K≠v.ownBlock:=by
 rcases h.2 with⟨rfl,_⟩|⟨g,cap,cur,rfl,hb,hg,rest⟩
 · simp [Value.ownBlock]
 · simp only [Value.ownBlock,ne_eq,Option.some.injEq];rintro rfl;rw [hg] at hk;injection hk with hk
   injection hk with _ h2 _
   exact hne h2
theorem ZmF {w:World} {g j:Nat} (u:Value):w.grownBy (w.setCell ⟨g,j,none⟩ u) (some g):=
 ⟨rfl,rfl,rfl,by simp,fun k _ hne=>Go.Deep.blk_setCell_other w _ u k (fun e=>hne (by rw [e]))⟩
def W2 (w:World):World:=(w.alloc (.cells #[.slice none 0 0] 190)).alloc (.cells #[.int .i64 0,.int .i64 0] 62)
theorem ZdW {w W:World} (h:Below (w.heap.size+2) (W2 w) W):
 (W.cell? ⟨w.heap.size,0,none⟩=some (.slice none 0 0)∧W.cell? ⟨w.heap.size+1,0,none⟩=some (.int .i64 0)∧W.cell? ⟨w.heap.size+1,1,none⟩=some (.int .i64 0))∧(W.frozen? ⟨w.heap.size,0,none⟩=false∧W.frozen? ⟨w.heap.size+1,0,none⟩=false∧W.frozen? ⟨w.heap.size+1,1,none⟩=false)∧w.heap.size+1<W.heap.size:=by
 have hs:=h.size;unfold W2 at h hs;simp only [World.size_alloc] at hs;have h2:Below ((w.alloc (.cells #[.slice none 0 0] 190)).alloc (.cells #[.int .i64 0,.int .i64 0] 62)).heap.size ((w.alloc (.cells #[.slice none 0 0] 190)).alloc (.cells #[.int .i64 0,.int .i64 0] 62)) W:=by simpa using h
 obtain⟨a1,a2,_⟩:=bx h2;obtain⟨b1,b2,_⟩:=bx (Ze h2);simp only [World.size_alloc] at a1 a2;exact⟨⟨b1 0,a1 0,a1 1⟩,⟨b2 0,a2 0,a2 1⟩,by omega⟩
theorem ZrW {w W:World} (h:Below (w.heap.size+2) (W2 w) W):W.heap[w.heap.size]? =some (.cells #[.slice none 0 0] 190 (0,0))∧W.heap[w.heap.size+1]? =some (.cells #[.int .i64 0,.int .i64 0] 62 (0,0)):=by
 rw [h.block _ (by omega),h.block _ (by omega)];unfold W2;constructor
 · rw [Below.heap_alloc _ _ _ (by simp)];exact heap_alloc_new w _
 · have:=heap_alloc_new (w.alloc (.cells #[.slice none 0 0] 190)) (.cells #[.int .i64 0,.int .i64 0] 62);simp only [World.size_alloc] at this;exact this
theorem Ztg {w:World} {g1 g2 k:Nat} (a b c:Value)(h1:k≠g1)(h2:k≠g2):(((w.setCell ⟨g1,0,none⟩ a).setCell ⟨g2,0,none⟩ b).setCell ⟨g2,1,none⟩ c).heap[k]? =w.heap[k]?:=by
 rw [heap_set h2,heap_set h2,heap_set h1]
theorem ZbB.set3 {w:World} {rs:List (Rw×Sl)} {g1 g2:Nat} (h:ZbB w rs)(a b c:Value){T1 T2:TypeId} {c1 c2:Array Value} (h1:w.heap[g1]? =some (.cells c1 T1 (0,0)))(h2:w.heap[g2]? =some (.cells c2 T2 (0,0)))(n1:T1≠21)(n2:T2≠21):
 ZbB (((w.setCell ⟨g1,0,none⟩ a).setCell ⟨g2,0,none⟩ b).setCell ⟨g2,1,none⟩ c) rs:=fun x hx=>by
 have e:(((w.setCell ⟨g1,0,none⟩ a).setCell ⟨g2,0,none⟩ b).setCell ⟨g2,1,none⟩ c).heap.size=w.heap.size:=by simp
 refine⟨(h x hx).1,?_⟩;rw [e];refine(h x hx).2.keep fun k hk ⟨cs,fr,hh⟩=>Ztg a b c ?_ ?_
 · rintro rfl;rw [hh] at h1;injection h1 with h1;injection h1 with _ h1 _;exact n1 h1.symm
 · rintro rfl;rw [hh] at h2;injection h2 with h2;injection h2 with _ h2 _;exact n2 h2.symm
theorem Zcq.set3 {w:World} {A:Option Addr} {rs:List (Rw×Sl)} {g1 g2 base:Nat} (h:Zcq w w.heap.size A rs)(hA:∀ad,A=some ad→base≤ad.block)(h1:g1<base)(h2:g2<base)(a b c:Value):
 Zcq (((w.setCell ⟨g1,0,none⟩ a).setCell ⟨g2,0,none⟩ b).setCell ⟨g2,1,none⟩ c) (((w.setCell ⟨g1,0,none⟩ a).setCell ⟨g2,0,none⟩ b).setCell ⟨g2,1,none⟩ c).heap.size A rs:=by
 have e:(((w.setCell ⟨g1,0,none⟩ a).setCell ⟨g2,0,none⟩ b).setCell ⟨g2,1,none⟩ c).heap.size=w.heap.size:=by simp
 rw [e];refine⟨⟨h.1.1,fun h0=> ?_⟩,h.2⟩;obtain⟨ad,hA2,hb,hc⟩:=h.1.2 h0;have hba:=hA ad hA2;refine⟨ad,hA2,hb,fun j u hu=> ?_⟩;have hbk:(ad.add j).block=ad.block:=by unfold Addr.add;split<;>rfl
 rw [Zb3 (by omega),Zb3 (by omega),Zb3 (by omega)];exact hc j u hu
theorem Zgc (w:World)(a b c d:Value)(T:TypeId):∀j u,[a,b,c,d][j]? =some u→(w.alloc (.cells #[a,b,c,d] T)).cell? ((⟨w.heap.size,0,none⟩:Addr).add j)=some u:=by
 intro j u hu;rw [addr_eq rfl];show(w.alloc _).cell? ⟨w.heap.size,0+j,none⟩=_
 rw [Nat.zero_add,cell_of_row _ w.heap.size j _ T (0,0) (heap_alloc_new w _)];simpa using hu
theorem Ze5 {w W:World} (h:Below (w.heap.size+2) (W2 w) W):Below w.heap.size w W:=Zeh (by unfold W2 at h;simpa using h)
theorem Zoj (l:List Pce)(A:Option Addr)(c:Nat)(hl:l.length≤4096)(hok:∀p∈l,Za6 p∧p.2.2.2.1.size≤1000000)(w:World)(hT:Zk w)(hA:Reads w w.heap.size 4 A l.length (l.flatMap pV)):
 Calls Tryz.prog 264 #[.slice A l.length c] w (ZfN l w):=by
 have HE:Hid (∀k w',Zau [] l 0= .inr k→Below w.heap.size w w'→ZfN l w (.returned (.tuple #[.agg #[.slice none 0 0],.agg #[.int .i64 5,.int .i64 (k:Nat)]])) w'):=Lib.hid fun k w' h hb=>⟨.inr ⟨k,h,rfl⟩,hb⟩
 have HO:Hid (∀A c rs w',NwOk l rs→rs.length≤c→Zcq w' w'.heap.size A rs→ZbB w' rs→Below w.heap.size w w'→ZfN l w (.returned (.tuple #[.agg #[.slice A rs.length c],.agg #[.int .i64 0,.int .i64 0]])) w'):=Lib.hid fun A c rs w' h1 h2 h3 h4 hb=>⟨.inl ⟨A,c,rs,h1,h2,h3,h4,rfl⟩,hb⟩
 generalize ZfN l w=P at*;obtain⟨i0,hi,iz0,iz1,iz2⟩:=info_parts Zir;obtain⟨j0,hj,jz0,jz1,jz2⟩:=info_parts ZpD;have Hok:=Lib.hid hok;clear hok;go_enter Tryz.func264,Tryz.ntmps264
 go_wp2_with fail
 go_loopw [4,5,14] (fun v4 v5 i wr=>NwRel l (w.heap.size+2) (W2 w) v4 v5 i wr) (fun _ _ i _=>l.length - (intOf i).toNat)
 case atStart=>exact⟨0,[],[],by omega,rfl,rfl,by simp,World.ownsRow_nil _ _ _ _,World.ownsRow_nil _ _ _ _,Ztf,by simp,by intro x hx;simp at hx,Below.refl _ _⟩
 case round=>
  obtain⟨k,rs,bits,hk,rfl,hnf,hrk,hown4,hown5,hseen,hbl,hrs,hb⟩:=hrel;obtain⟨_,_,hz⟩:=ZdW hb;by_cases hlt:k<l.length
  · obtain⟨p,hp⟩:∃p,l[k]? =some p:=⟨_,List.getElem?_eq_getElem hlt⟩
    obtain⟨ad,rfl,hadb,hadc⟩:=hA.2 (by omega);obtain⟨hpk,hps⟩:=Hok.out p (List.mem_of_getElem? hp);have hce:∀i u,(pV p)[i]? =some u→i<4→wr.cell? (ad.add (k*4+i))=some u:=fun i u hu hi4=>by
     have h1:=hadc (k*4+i) u ((Zf9 pV ZlT l k i p hp hi4).trans hu);have hbk:(ad.add (k*4+i)).block=ad.block:=by unfold Addr.add;split<;>rfl
     rw [hb.cell (by rw [hbk];omega),W2,World.cell?_alloc_lt _ _ _ (by rw [hbk];simp;omega),World.cell?_alloc_lt _ _ _ (by rw [hbk];exact hadb)];exact h1
    have had:∀i,i≠0→ad.add (k*4+i)=⟨(ad.add (k*4)).block,(ad.add (k*4)).off+i,none⟩:=fun i hi=>by
     rw [←Zhh];show(if i=0 then _ else _)=_
     rw [if_neg hi]
    have q0:=hce 0 _ rfl (by omega);have q1:=hce 1 _ rfl (by omega);have q2:=hce 2 _ rfl (by omega);have q3:=hce 3 _ rfl (by omega);rw [Nat.add_zero] at q0;rw [had 1 (by omega)] at q1;rw [had 2 (by omega)] at q2;rw [had 3 (by omega)] at q3;clear hce had;have Hnf:=Lib.hid hnf;clear hnf;have hpr:=fun w' hT=>Zom p hpk hps w' hT;unfold pV at hpr;have hB0:=Ze5 hb;have hT1:∀o,Zk (wr.alloc o):=fun o=>ZI (Zaf hT hB0 (Nat.le_refl _)) o;have hdk:l.drop k=p::l.drop (k+1):=by
     obtain⟨h1,h2⟩:=List.getElem?_eq_some_iff.1 hp;rw [List.drop_eq_getElem_cons h1,h2]
    have hstep:Zau [] l 0=Zau (rs.map (·.1)) (p::l.drop (k+1)) k:=by rw [←hdk];exact Hnf.out
    simp only [Zau] at hstep;clear hdk;cases hr:rowOf p with
    |none=>
     rw [hr] at hstep;have Hst:=Lib.hid hstep;have hpr0:∀w',Zk w'→Calls Tryz.prog 311 #[.agg #[.int .i64 p.1,.int .i32 p.2.1,.int .i64 p.2.2.1,.string p.2.2.2.1]] w' fun e w''=>e= .returned (.tuple #[.agg #[.int .i64 0,.int .i64 0,.int .i32 0,.slice none 0 0],.bool false])∧Below w'.heap.size w' w'':=fun w' hT=>(hpr w' hT).mono fun e w'' h=>by
      obtain⟨h1|⟨r,v,h1,_⟩,h2⟩:=h
      · exact⟨h1.2,h2⟩
      · rw [hr] at h1;cases h1
     clear hpr hstep hr Hnf hown4 hown5 hseen hrs;go_wp2_with (go_at_call 311;refine(hpr0 _ (hT1 _)).mono ?_;rintro e w1 ⟨rfl,hb1⟩;have HB1:=(hb.alloc (by omega) _).trans (hb1.mono (by simp;omega));have hz1:=hb1.size;obtain⟨⟨c0,c1,c2⟩,⟨f0,f1,f2⟩,g0⟩:=ZdW HB1;have g1:w.heap.size<w1.heap.size:=(by omega))
     refine bodyPost_ret (v:= .tuple #[.agg #[.slice none 0 0],.agg #[.int .i64 5,.int .i64 (k:Nat)]]) (by simp [results,Tryz.results264,go_sem,World.cell?_alloc_lt,g0,g1,c0,c1,c2]) rfl ?_;exact HE.out k _ Hst.out (((((Ze5 HB1).setCell (Nat.le_refl _) _).setCell (by simp) _).setCell (by simp) _).alloc (by simp;omega) _)
    |some r=>
     rw [hr] at hstep;simp only at hstep;have hok:=Zmt hpk hr;have hpr1:∀w',Zk w'→Calls Tryz.prog 311 #[.agg #[.int .i64 p.1,.int .i32 p.2.1,.int .i64 p.2.2.1,.string p.2.2.2.1]] w' fun e w''=>∃q:Sl,e= .returned (.tuple #[.agg #[.int .i64 (r.1:Int),.int .i64 (r.2.1:Int),.int .i32 r.2.2.1,.slice q.1 q.2.1 q.2.2],.bool true])∧ZD w'' w''.heap.size (r,q)∧Below w'.heap.size w' w'':=fun w' hT=>(hpr w' hT).mono fun e w'' h=>by
      obtain⟨h1|⟨r',v,h1,h3,h4⟩,h2⟩:=h
      · rw [hr] at h1;cases h1.1
      · rw [hr] at h1;injection h1 with h1;subst h1
        exact⟨v,h3,h4,h2⟩
     clear hpr hr Hnf;obtain⟨ok1,ok2,ok3⟩:=id hok;obtain⟨A5,c5,hv5,hc5,_⟩:=Reads.of_own hown5;have hend:=fun v W=>ZcK r.1 r.2.1 r.2.2.1 v ok2 W;have e1:IntKind.i64.wrap ((r.1:Int)+r.2.1 - bits.length)=(r.1:Int)+r.2.1 - bits.length:=IntWalk.i64_in _ (by omega);subst hv5;have Hstep:=Lib.hid hstep;have Hown4:=Lib.hid hown4;have Hown5:=Lib.hid hown5;have Hseen:=Lib.hid hseen;have Hrs:=Lib.hid hrs;clear hstep hown4 hown5 hseen hrs;by_cases hgrow:bits.length<r.1+r.2.1
     · have hpos:(0:Int)<(r.1:Int)+r.2.1 - bits.length:=by omega
       have hmm:(r.1:Int)+r.2.1 - bits.length=((r.1+r.2.1 - bits.length:Nat):Int):=by omega
       rw [hmm] at e1 hpos;go_wp2_with (first|(go_at_call 311;refine(hpr1 _ (hT1 _)).mono ?_;rintro e w1 ⟨q,rfl,hsg,hb1⟩;have HB1:=(hb.alloc (by omega) _).trans (hb1.mono (by simp;omega));have hz1:=Z9 hb1;have HRS1:=Lib.hid (Hrs.out.below (Ze hb1));have HO41:=Lib.hid (ZE (Hown4.out.alloc _) hb1);have HO51:=Lib.hid (ZE (Hown5.out.alloc _) hb1);have Hsg:=Lib.hid hsg;clear hsg)|(go_at_call 270;refine(hend _ _).mono ?_;rintro e w2 ⟨rfl,hb2⟩;have HB2:=(HB1.alloc (by omega) _).trans (hb2.mono (by simp;omega));have hz2:=Z9 hb2;have HRS2:=Lib.hid (HRS1.out.below (Ze hb2));have HO42:=Lib.hid (ZE (HO41.out.alloc _) hb2);have HO52:=Lib.hid (ZE (HO51.out.alloc _) hb2);have HSG2:=Lib.hid ((Hsg.out.below (Ze hb2)).more (Nat.le_of_succ_le hz2));have H8:=Lib.hid (Zw (heap_alloc_new w1 (.cells #[.int .i64 (r.1:Int),.int .i64 (r.2.1:Int),.int .i32 r.2.2.1,.slice q.1 q.2.1 q.2.2] 310)) hb2);obtain⟨⟨x0,x1,x2,x3⟩,_⟩:=bx4 hb2)|(at_builtin;obtain⟨v5',w3,hrun,hown5',hgr5⟩:=ZsS (P:=Tryz.prog) w2 (w.heap.size+2) 336 3 336 4 j0 _ (.bool false) Tryz.underlying336 Tryz.underlying3 hj jz0 jz1 jz2 rfl rfl _ _ _ HO52.out (r.1+r.2.1 - bits.length) (by omega) (by omega) (by omega);refine Lib.wpList_append_run _ rfl _ _ _ _ rfl _ _ rfl rfl _ _ hrun ?_;clear hrun;have HO43:=Lib.hid (HO42.out.kept hgr5 (Zia HO42.out HO52.out (by decide)));have HRS3:=Lib.hid (HRS2.out.grown HO52.out (by decide) hgr5);have HSG3:=Lib.hid ((Zck HSG2.out HO52.out (by decide) hgr5 (Nat.le_refl _)).more hgr5.size);have H83:=Lib.hid ((hgr5.block _ (by omega) (Zgf HO52.out H8.out (by decide))).trans H8.out);have HB3:=Zaa HB2 HO52.out hgr5 (by omega) (Nat.le_refl _);have hz3:=hgr5.size;obtain⟨bits2,hbits2⟩:∃b:List Bool,b=bits++List.replicate (r.1+r.2.1 - bits.length) false:=⟨_,rfl⟩;have hl2:bits2.length=r.1+r.2.1:=(by rw [hbits2];simp;omega);have hown6:w3.ownsRow (w.heap.size+2) 4 1 v5' bits2.length (bits2.map Value.bool):=(by rw [hl2,hbits2,List.map_append,List.map_replicate];rw [show bits.length+(r.1+r.2.1 - bits.length)=r.1+r.2.1 by omega] at hown5';exact hown5');obtain⟨g5,c5,rfl⟩:=ZlH hown6 (by omega);have HO53:=Lib.hid hown6;have HSEEN:=Lib.hid (show Zdf bits2 (rs.map (·.1)) by rw [hbits2];exact Zte Hseen.out _);have x0':=cell_of_row _ _ 0 _ _ _ H83.out;simp at x0';have HL2:=Lib.hid (show r.1+r.2.1≤bits2.length by omega);have HL3:=Lib.hid (show bits2.length≤1048576 by omega);clear hown5' hown6 hgr5 hbits2 hl2))
       clear x0 x1 x2 x3;go_loopw [11] (fun i wr2=>IwRel (w.heap.size+2) (W2 w) r q rs u4 g5 c5 bits2 w1.heap.size i wr2) (fun i _=>r.1+r.2.1 - (intOf i).toNat)
       case atStart=>exact⟨r.1,Nat.le_refl _,by omega,rfl,(fun j h1 h2=>by omega),by rw [ZmD];exact HO53.out,HO43.out,HRS3.out,HSG3.out,H83.out,HB3⟩
       case round=>
        obtain⟨cc,hc1,hc2,rfl,hfalse,ho5,ho4,hrs2,hsg2,h82,hbb⟩:=hrel;have y0:=cell_of_row _ _ 0 _ _ _ h82;have y1:=cell_of_row _ _ 1 _ _ _ h82;have y2:=cell_of_row _ _ 2 _ _ _ h82;have y3:=cell_of_row _ _ 3 _ _ _ h82;simp at y0 y1 y2 y3;have Hfalse:=Lib.hid hfalse;have Ho5:=Lib.hid ho5;have Ho4:=Lib.hid ho4;have Hrs2:=Lib.hid hrs2;have Hsg2:=Lib.hid hsg2;have H82:=Lib.hid h82;have Hb:=Lib.hid hbb;have hg5:=(ho5.lt g5 rfl).2;obtain⟨_,_,hzb⟩:=ZdW hbb;by_cases hcl:cc<r.1+r.2.1
        · have hcb:cc<bits2.length:=by have:=HL2.out;omega
          have hs5:=ho5.cellAt cc (by omega);rw [List.getElem?_map,Ziw _ _ _ _ hcb,decide_eq_false (Nat.lt_irrefl cc),Bool.and_false,Bool.or_false] at hs5;simp only [Option.map_some] at hs5;have hfz:=ho5.frozenAt cc;cases hbit:bits2[cc] with
          |true=>
           have hov:ovl (rs.map (·.1)) r=true:=ZmA HSEEN.out ⟨hc1,hcl⟩ (by rw [List.getElem?_eq_getElem hcb,hbit]);have Hst:=Lib.hid (show Zau [] l 0= .inr k by rw [Hstep.out,if_pos hov]);rw [hbit] at hs5;clear hfalse ho5 ho4 hrs2 hsg2 h82 hov;go_wp2_with (go_at_call 270;refine(hend _ _).mono ?_;rintro e w4 ⟨rfl,hb4⟩;have hz4:=hb4.size;have HB4:=(Hb.out).trans (hb4.mono (by omega));have HO44:=Lib.hid (ZE Ho4.out hb4);have HO54:=Lib.hid (ZE Ho5.out hb4);have HRS4:=Lib.hid (Hrs2.out.below hb4);have HSG4:=Lib.hid ((Hsg2.out.below hb4).more hz4);have H84:=Lib.hid (Zw H82.out hb4);have z0:=(cell_of_row _ _ 0 _ _ _ H84.out);have z1:=(cell_of_row _ _ 1 _ _ _ H84.out);have z2:=(cell_of_row _ _ 2 _ _ _ H84.out);have z3:=(cell_of_row _ _ 3 _ _ _ H84.out);simp at z0 z1 z2 z3;have s5:=(hb4.cell (p:=⟨g5,cc,none⟩) hg5).trans hs5;obtain⟨⟨c0,c1,c2⟩,⟨f0,f1,f2⟩,g0⟩:=ZdW HB4;have g1:w.heap.size<w4.heap.size:=(by omega))
           refine bodyPost_ret (v:= .tuple #[.agg #[.slice none 0 0],.agg #[.int .i64 5,.int .i64 (k:Nat)]]) (by simp [results,Tryz.results264,go_sem,World.cell?_alloc_lt,g0,g1,c0,c1,c2]) rfl ?_;exact HE.out k _ Hst.out ((((Ze5 HB4).setCell (Nat.le_refl _) _).setCell (by simp) _).setCell (by simp) _)
          |false=>
           rw [hbit] at hs5;have hbn:bits2[cc]? =some false:=by rw [List.getElem?_eq_getElem hcb,hbit]
           clear hfalse ho5 ho4 hrs2 hsg2 h82;go_wp2_with (go_at_call 270;refine(hend _ _).mono ?_;rintro e w4 ⟨rfl,hb4⟩;have hz4:=hb4.size;have HB4:=(Hb.out).trans (hb4.mono (by omega));have HO44:=Lib.hid (ZE Ho4.out hb4);have HO54:=Lib.hid (ZE Ho5.out hb4);have HRS4:=Lib.hid (Hrs2.out.below hb4);have HSG4:=Lib.hid ((Hsg2.out.below hb4).more hz4);have H84:=Lib.hid (Zw H82.out hb4);have z0:=(cell_of_row _ _ 0 _ _ _ H84.out);have z1:=(cell_of_row _ _ 1 _ _ _ H84.out);have z2:=(cell_of_row _ _ 2 _ _ _ H84.out);have z3:=(cell_of_row _ _ 3 _ _ _ H84.out);simp at z0 z1 z2 z3;have s5:=(hb4.cell (p:=⟨g5,cc,none⟩) hg5).trans hs5;have s6:=(hb4.frozen (p:=⟨g5,cc,none⟩) hg5).trans hfz;clear hs5 hfz)
           have hst5:=HO54.out.stored cc (.bool true);have hsg5:=ZmF (w:=w4) (g:=g5) (j:=cc) (.bool true);have hlt8:=(Array.getElem?_eq_some_iff.1 H84.out).1;refine⟨⟨cc+1,by omega,by omega,by simp,fun j h1 h2=> ?_,?_,HO44.out.kept hsg5 (.inr (Zh9 HO44.out HO54.out (by decide))),HRS4.out.grown HO54.out (by decide) hsg5,(Zck HSG4.out HO54.out (by decide) hsg5 (Nat.le_refl _)).more hsg5.size,(hsg5.block _ hlt8 (Zgf HO54.out H84.out (by decide))).trans H84.out,HB4.setCell (p:=⟨g5,cc,none⟩) (HO54.out.lt g5 rfl).1 _⟩,by simp [intOf];omega⟩
           · by_cases hj:j<cc
             · exact Hfalse.out j h1 hj
             · obtain rfl:j=cc:=by omega
               exact hbn
           · rw [ZmC _ _ _ hc1,List.map_set];exact hst5.1
        · obtain rfl:cc=r.1+r.2.1:=by omega
          obtain⟨hov,hseen2⟩:=ZmB HSEEN.out (fun x hx=>by obtain⟨y,hy,rfl⟩:=List.mem_map.1 hx;exact(Hrs2.out y hy).1.1) ok1 HL2.out (fun c h1 h2=>Hfalse.out c h1 h2);have Hst:=Lib.hid (show Zau [] l 0=Zau ((rs++[(r,q)]).map (·.1)) (l.drop (k+1)) (k+1) by rw [Hstep.out,hov];simp);have Hseen2:=Lib.hid hseen2;clear hfalse ho5 ho4 hrs2 hsg2 h82 hov hseen2;go_wp2_with (first|(go_at_call 270;refine(hend _ _).mono ?_;rintro e w4 ⟨rfl,hb4⟩;have hz4:=hb4.size;have HB4:=(Hb.out).trans (hb4.mono (by omega));have HO44:=Lib.hid (ZE Ho4.out hb4);have HO54:=Lib.hid (ZE Ho5.out hb4);have HRS4:=Lib.hid (Hrs2.out.below hb4);have HSG4:=Lib.hid ((Hsg2.out.below hb4).more hz4);have H84:=Lib.hid (Zw H82.out hb4);have z0:=(cell_of_row _ _ 0 _ _ _ H84.out);have z1:=(cell_of_row _ _ 1 _ _ _ H84.out);have z2:=(cell_of_row _ _ 2 _ _ _ H84.out);have z3:=(cell_of_row _ _ 3 _ _ _ H84.out);simp at z0 z1 z2 z3)|(at_builtin;refine wpList_append_own _ rfl _ _ 188 rfl (w.heap.size+2) 310 i0 _ 4 48 Tryz.underlying188 hi iz0 iz1 iz2 rfl (by decide) _ rs.length _ rfl (HO44.out.alloc _) ⟨w4.heap.size,0,none⟩ 1 1 [.int .i64 (r.1:Int),.int .i64 (r.2.1:Int),.int .i32 r.2.2.1,.slice q.1 q.2.1 q.2.2] rfl rfl ?d1 ?d2 ?d3 ?d4 ?d5 ?_))
          case d1=>exact Zgc w4 _ _ _ _ _
          case d2=>intro u hu;simp only [List.mem_cons,List.not_mem_nil,or_false] at hu;rcases hu with rfl|rfl|rfl|rfl<;>rfl
          case d3=>unfold maxLen;omega
          case d4=>omega
          case d5=>simp;omega
          intro v4' w5 hown6 hg6 h06;have HO55:=Lib.hid ((HO54.out.alloc (.cells #[.int .i64 (r.1:Int),.int .i64 (r.2.1:Int),.int .i32 r.2.2.1,.slice q.1 q.2.1 q.2.2] 310)).kept hg6 (Zia HO54.out HO44.out (by decide)));have HRS5:=Lib.hid ((HRS4.out.below ((Below.refl _ _).alloc (Nat.le_refl _) _)).grown (HO44.out.alloc (.cells #[.int .i64 (r.1:Int),.int .i64 (r.2.1:Int),.int .i32 r.2.2.1,.slice q.1 q.2.1 q.2.2] 310)) (by decide) hg6);have HSG5:=Lib.hid ((Zck ((HSG4.out.below ((Below.refl _ _).alloc (Nat.le_refl _) _)).more (by simp)) (HO44.out.alloc (.cells #[.int .i64 (r.1:Int),.int .i64 (r.2.1:Int),.int .i32 r.2.2.1,.slice q.1 q.2.1 q.2.2] 310)) (by decide) hg6 (Nat.le_refl _)).more hg6.size);have HB5:=Zaa (HB4.alloc (by omega) (.cells #[.int .i64 (r.1:Int),.int .i64 (r.2.1:Int),.int .i32 r.2.2.1,.slice q.1 q.2.1 q.2.2] 310)) (HO44.out.alloc _) hg6 (by simp;omega) (Nat.le_refl _);have Hown6:=Lib.hid hown6;clear hown6 hg6 h06;go_wp2_with fail
          refine⟨⟨k+1,rs++[(r,q)],ZbV bits2 r.1 (r.1+r.2.1),by omega,by simp,Hst.out,by simp;omega,?_,?_,?_,by rw [ZeH];exact HL3.out,?_,HB5⟩,by simp [intOf];omega⟩
          · have:=Hown6.out;simpa [rV,slV] using this
          · rw [ZeH];exact HO55.out
          · have:=Hseen2.out;simpa using this
          · intro x hx;rcases List.mem_append.1 hx with h|h
            · exact HRS5.out x h
            · simp only [List.mem_singleton] at h;subst h;exact⟨hok,HSG5.out⟩
     · have hpos:¬(0:Int)<(r.1:Int)+r.2.1 - bits.length:=by omega
       obtain⟨g5,c5',hv5⟩:=ZlH Hown5.out (by omega);injection hv5 with hA5 _ hc5'
       subst hA5;subst hc5';have HSEEN:=Hseen;have HL2:=Lib.hid (show r.1+r.2.1≤bits.length by omega);have HL3:=Lib.hid hbl;go_wp2_with (first|(go_at_call 311;refine(hpr1 _ (hT1 _)).mono ?_;rintro e w1 ⟨q,rfl,hsg,hb1⟩;have HB1:=(hb.alloc (by omega) _).trans (hb1.mono (by simp;omega));have hz1:=Z9 hb1;have HRS1:=Lib.hid (Hrs.out.below (Ze hb1));have HO41:=Lib.hid (ZE (Hown4.out.alloc _) hb1);have HO51:=Lib.hid (ZE (Hown5.out.alloc _) hb1);have Hsg:=Lib.hid hsg;clear hsg)|(go_at_call 270;refine(hend _ _).mono ?_;rintro e w2 ⟨rfl,hb2⟩;have HB2:=(HB1.alloc (by omega) _).trans (hb2.mono (by simp;omega));have hz2:=Z9 hb2;have HRS2:=Lib.hid (HRS1.out.below (Ze hb2));have HO42:=Lib.hid (ZE (HO41.out.alloc _) hb2);have HO52:=Lib.hid (ZE (HO51.out.alloc _) hb2);have HSG2:=Lib.hid ((Hsg.out.below (Ze hb2)).more (Nat.le_of_succ_le hz2));have H8:=Lib.hid (Zw (heap_alloc_new w1 (.cells #[.int .i64 (r.1:Int),.int .i64 (r.2.1:Int),.int .i32 r.2.2.1,.slice q.1 q.2.1 q.2.2] 310)) hb2);obtain⟨⟨x0,x1,x2,x3⟩,_⟩:=bx4 hb2))
       clear x0 x1 x2 x3;go_loopw [11] (fun i wr2=>IwRel (w.heap.size+2) (W2 w) r q rs u4 g5 c5 bits w1.heap.size i wr2) (fun i _=>r.1+r.2.1 - (intOf i).toNat)
       case atStart=>exact⟨r.1,Nat.le_refl _,by omega,rfl,(fun j h1 h2=>by omega),by rw [ZmD];exact HO52.out,HO42.out,HRS2.out,HSG2.out,H8.out,HB2⟩
       case round=>
        obtain⟨cc,hc1,hc2,rfl,hfalse,ho5,ho4,hrs2,hsg2,h82,hbb⟩:=hrel;have y0:=cell_of_row _ _ 0 _ _ _ h82;have y1:=cell_of_row _ _ 1 _ _ _ h82;have y2:=cell_of_row _ _ 2 _ _ _ h82;have y3:=cell_of_row _ _ 3 _ _ _ h82;simp at y0 y1 y2 y3;have Hfalse:=Lib.hid hfalse;have Ho5:=Lib.hid ho5;have Ho4:=Lib.hid ho4;have Hrs2:=Lib.hid hrs2;have Hsg2:=Lib.hid hsg2;have H82:=Lib.hid h82;have Hb:=Lib.hid hbb;have hg5:=(ho5.lt g5 rfl).2;obtain⟨_,_,hzb⟩:=ZdW hbb;by_cases hcl:cc<r.1+r.2.1
        · have hcb:cc<bits.length:=by have:=HL2.out;omega
          have hs5:=ho5.cellAt cc (by omega);rw [List.getElem?_map,Ziw _ _ _ _ hcb,decide_eq_false (Nat.lt_irrefl cc),Bool.and_false,Bool.or_false] at hs5;simp only [Option.map_some] at hs5;have hfz:=ho5.frozenAt cc;cases hbit:bits[cc] with
          |true=>
           have hov:ovl (rs.map (·.1)) r=true:=ZmA HSEEN.out ⟨hc1,hcl⟩ (by rw [List.getElem?_eq_getElem hcb,hbit]);have Hst:=Lib.hid (show Zau [] l 0= .inr k by rw [Hstep.out,if_pos hov]);rw [hbit] at hs5;clear hfalse ho5 ho4 hrs2 hsg2 h82 hov;go_wp2_with (go_at_call 270;refine(hend _ _).mono ?_;rintro e w4 ⟨rfl,hb4⟩;have hz4:=hb4.size;have HB4:=(Hb.out).trans (hb4.mono (by omega));have HO44:=Lib.hid (ZE Ho4.out hb4);have HO54:=Lib.hid (ZE Ho5.out hb4);have HRS4:=Lib.hid (Hrs2.out.below hb4);have HSG4:=Lib.hid ((Hsg2.out.below hb4).more hz4);have H84:=Lib.hid (Zw H82.out hb4);have z0:=(cell_of_row _ _ 0 _ _ _ H84.out);have z1:=(cell_of_row _ _ 1 _ _ _ H84.out);have z2:=(cell_of_row _ _ 2 _ _ _ H84.out);have z3:=(cell_of_row _ _ 3 _ _ _ H84.out);simp at z0 z1 z2 z3;have s5:=(hb4.cell (p:=⟨g5,cc,none⟩) hg5).trans hs5;obtain⟨⟨c0,c1,c2⟩,⟨f0,f1,f2⟩,g0⟩:=ZdW HB4;have g1:w.heap.size<w4.heap.size:=(by omega))
           refine bodyPost_ret (v:= .tuple #[.agg #[.slice none 0 0],.agg #[.int .i64 5,.int .i64 (k:Nat)]]) (by simp [results,Tryz.results264,go_sem,World.cell?_alloc_lt,g0,g1,c0,c1,c2]) rfl ?_;exact HE.out k _ Hst.out ((((Ze5 HB4).setCell (Nat.le_refl _) _).setCell (by simp) _).setCell (by simp) _)
          |false=>
           rw [hbit] at hs5;have hbn:bits[cc]? =some false:=by rw [List.getElem?_eq_getElem hcb,hbit]
           clear hfalse ho5 ho4 hrs2 hsg2 h82;go_wp2_with (go_at_call 270;refine(hend _ _).mono ?_;rintro e w4 ⟨rfl,hb4⟩;have hz4:=hb4.size;have HB4:=(Hb.out).trans (hb4.mono (by omega));have HO44:=Lib.hid (ZE Ho4.out hb4);have HO54:=Lib.hid (ZE Ho5.out hb4);have HRS4:=Lib.hid (Hrs2.out.below hb4);have HSG4:=Lib.hid ((Hsg2.out.below hb4).more hz4);have H84:=Lib.hid (Zw H82.out hb4);have z0:=(cell_of_row _ _ 0 _ _ _ H84.out);have z1:=(cell_of_row _ _ 1 _ _ _ H84.out);have z2:=(cell_of_row _ _ 2 _ _ _ H84.out);have z3:=(cell_of_row _ _ 3 _ _ _ H84.out);simp at z0 z1 z2 z3;have s5:=(hb4.cell (p:=⟨g5,cc,none⟩) hg5).trans hs5;have s6:=(hb4.frozen (p:=⟨g5,cc,none⟩) hg5).trans hfz;clear hs5 hfz)
           have hst5:=HO54.out.stored cc (.bool true);have hsg5:=ZmF (w:=w4) (g:=g5) (j:=cc) (.bool true);have hlt8:=(Array.getElem?_eq_some_iff.1 H84.out).1;refine⟨⟨cc+1,by omega,by omega,by simp,fun j h1 h2=> ?_,?_,HO44.out.kept hsg5 (.inr (Zh9 HO44.out HO54.out (by decide))),HRS4.out.grown HO54.out (by decide) hsg5,(Zck HSG4.out HO54.out (by decide) hsg5 (Nat.le_refl _)).more hsg5.size,(hsg5.block _ hlt8 (Zgf HO54.out H84.out (by decide))).trans H84.out,HB4.setCell (p:=⟨g5,cc,none⟩) (HO54.out.lt g5 rfl).1 _⟩,by simp [intOf];omega⟩
           · by_cases hj:j<cc
             · exact Hfalse.out j h1 hj
             · obtain rfl:j=cc:=by omega
               exact hbn
           · rw [ZmC _ _ _ hc1,List.map_set];exact hst5.1
        · obtain rfl:cc=r.1+r.2.1:=by omega
          obtain⟨hov,hseen2⟩:=ZmB HSEEN.out (fun x hx=>by obtain⟨y,hy,rfl⟩:=List.mem_map.1 hx;exact(Hrs2.out y hy).1.1) ok1 HL2.out (fun c h1 h2=>Hfalse.out c h1 h2);have Hst:=Lib.hid (show Zau [] l 0=Zau ((rs++[(r,q)]).map (·.1)) (l.drop (k+1)) (k+1) by rw [Hstep.out,hov];simp);have Hseen2:=Lib.hid hseen2;clear hfalse ho5 ho4 hrs2 hsg2 h82 hov hseen2;go_wp2_with (first|(go_at_call 270;refine(hend _ _).mono ?_;rintro e w4 ⟨rfl,hb4⟩;have hz4:=hb4.size;have HB4:=(Hb.out).trans (hb4.mono (by omega));have HO44:=Lib.hid (ZE Ho4.out hb4);have HO54:=Lib.hid (ZE Ho5.out hb4);have HRS4:=Lib.hid (Hrs2.out.below hb4);have HSG4:=Lib.hid ((Hsg2.out.below hb4).more hz4);have H84:=Lib.hid (Zw H82.out hb4);have z0:=(cell_of_row _ _ 0 _ _ _ H84.out);have z1:=(cell_of_row _ _ 1 _ _ _ H84.out);have z2:=(cell_of_row _ _ 2 _ _ _ H84.out);have z3:=(cell_of_row _ _ 3 _ _ _ H84.out);simp at z0 z1 z2 z3)|(at_builtin;refine wpList_append_own _ rfl _ _ 188 rfl (w.heap.size+2) 310 i0 _ 4 48 Tryz.underlying188 hi iz0 iz1 iz2 rfl (by decide) _ rs.length _ rfl (HO44.out.alloc _) ⟨w4.heap.size,0,none⟩ 1 1 [.int .i64 (r.1:Int),.int .i64 (r.2.1:Int),.int .i32 r.2.2.1,.slice q.1 q.2.1 q.2.2] rfl rfl ?d1 ?d2 ?d3 ?d4 ?d5 ?_))
          case d1=>exact Zgc w4 _ _ _ _ _
          case d2=>intro u hu;simp only [List.mem_cons,List.not_mem_nil,or_false] at hu;rcases hu with rfl|rfl|rfl|rfl<;>rfl
          case d3=>unfold maxLen;omega
          case d4=>omega
          case d5=>simp;omega
          intro v4' w5 hown6 hg6 h06;have HO55:=Lib.hid ((HO54.out.alloc (.cells #[.int .i64 (r.1:Int),.int .i64 (r.2.1:Int),.int .i32 r.2.2.1,.slice q.1 q.2.1 q.2.2] 310)).kept hg6 (Zia HO54.out HO44.out (by decide)));have HRS5:=Lib.hid ((HRS4.out.below ((Below.refl _ _).alloc (Nat.le_refl _) _)).grown (HO44.out.alloc (.cells #[.int .i64 (r.1:Int),.int .i64 (r.2.1:Int),.int .i32 r.2.2.1,.slice q.1 q.2.1 q.2.2] 310)) (by decide) hg6);have HSG5:=Lib.hid ((Zck ((HSG4.out.below ((Below.refl _ _).alloc (Nat.le_refl _) _)).more (by simp)) (HO44.out.alloc (.cells #[.int .i64 (r.1:Int),.int .i64 (r.2.1:Int),.int .i32 r.2.2.1,.slice q.1 q.2.1 q.2.2] 310)) (by decide) hg6 (Nat.le_refl _)).more hg6.size);have HB5:=Zaa (HB4.alloc (by omega) (.cells #[.int .i64 (r.1:Int),.int .i64 (r.2.1:Int),.int .i32 r.2.2.1,.slice q.1 q.2.1 q.2.2] 310)) (HO44.out.alloc _) hg6 (by simp;omega) (Nat.le_refl _);have Hown6:=Lib.hid hown6;clear hown6 hg6 h06;go_wp2_with fail
          refine⟨⟨k+1,rs++[(r,q)],ZbV bits r.1 (r.1+r.2.1),by omega,by simp,Hst.out,by simp;omega,?_,?_,?_,by rw [ZeH];exact HL3.out,?_,HB5⟩,by simp [intOf];omega⟩
          · have:=Hown6.out;simpa [rV,slV] using this
          · rw [ZeH];exact HO55.out
          · have:=Hseen2.out;simpa using this
          · intro x hx;rcases List.mem_append.1 hx with h|h
            · exact HRS5.out x h
            · simp only [List.mem_singleton] at h;subst h;exact⟨hok,HSG5.out⟩
  · have hk2:k=l.length:=by omega
    subst hk2;have Hn:=Lib.hid (show Zau [] l 0= .inl (rs.map (·.1)) by rw [hnf,List.drop_of_length_le (Nat.le_refl _)];rfl);obtain⟨A4,c4,hv4,hc4,_⟩:=Reads.of_own hown4;subst hv4;have hbf:=Zi0 (w.heap.size+2) (.slice A4 rs.length c4) rs wr hown4 (by omega) (by omega);have Hlt4:=Lib.hid (show∀ad,A4=some ad→w.heap.size+2≤ad.block from fun ad h=>(hown4.lt ad.block (by rw [h];rfl)).1);have Hrs:=Lib.hid hrs;have Hown4:=Lib.hid hown4;clear hnf hown4 hown5 hseen hrs;go_wp2_with (go_at_call 312;refine hbf.mono ?_;rintro e w9 ⟨rfl,A5,c5,rs',hv5,hc5,hperm,hsort,hrd,hbb,hgr9⟩;have HB9:=hb.trans hbb;obtain⟨⟨c0,c1,c2⟩,⟨f0,f1,f2⟩,g0⟩:=ZdW HB9;injection hv5 with hA5 _ hcc5;subst hA5;subst hcc5;have Hperm:=Lib.hid hperm;have Hsort:=Lib.hid hsort;have Hrd:=Lib.hid hrd;clear hperm hsort hrd)
    obtain⟨n1,n2⟩:=ZrW HB9;have hlen:rs'.length=rs.length:=Hperm.out.length_eq;have hrs9:ZbB w9 rs':=fun x hx=>Hrs.out.grown Hown4.out (by decide) hgr9 x (Hperm.out.mem_iff.1 hx);have hf:=HO.out A4 c4 rs' (((w9.setCell ⟨w.heap.size,0,none⟩ (.slice A4 rs.length c4)).setCell ⟨w.heap.size+1,0,none⟩ (.int .i64 0)).setCell ⟨w.heap.size+1,1,none⟩ (.int .i64 0)) ⟨rs,Hn.out,Hperm.out,Hsort.out⟩ (by omega) (Hrd.out.set3 Hlt4.out (by omega) (by omega) _ _ _) (hrs9.set3 _ _ _ n1 n2 (by decide) (by decide)) ((((Ze5 HB9).setCell (Nat.le_refl _) _).setCell (by simp) _).setCell (by simp) _);rw [hlen] at hf;refine bodyPost_ret (v:= .tuple #[.agg #[.slice A4 rs.length c4],.agg #[.int .i64 0,.int .i64 0]]) (by simp [results,Tryz.results264,go_sem,c0,c1,c2]) rfl ?_;exact hf
end Go.Proofs.YtecandjkbbpooaaGreatDoor
