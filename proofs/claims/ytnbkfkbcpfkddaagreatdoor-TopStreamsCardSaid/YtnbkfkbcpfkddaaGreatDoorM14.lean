/- Lemmas for a statement on the tops; conditions: as each says. -/
import Derived.Laws.Bits64b
import Derived.Deep.DeepCutAuto
import Derived.Laws.BitsAllLaws
import Derived.Deep.RegionHeld3
import Derived.Test.YtnbkfkbcpfkddaaGreatDoorM13
set_option linter.unusedVariables false
set_option linter.unusedSimpArgs false
set_option maxRecDepth 100000
set_option maxHeartbeats 4000000
namespace Go.Proofs.YtnbkfkbcpfkddaaGreatDoor
open Go Go.RowKit
theorem ZkN {α:Type} (z x:α)(l:List α):∀m,(List.replicate (m+1) z++l).set m x=List.replicate m z++x::l
 |0=>rfl
 |m+1=>by
  have:=ZkN z x l m;rw [List.replicate_succ,List.cons_append,List.set_cons_succ,this,List.replicate_succ,List.cons_append]
theorem Zna {α:Type} (x y:α)(l r:List α):(l++y::r).set l.length x=l++x::r:=by
 rw [List.set_append_right _ _ (Nat.le_refl _),Nat.sub_self,List.set_cons_zero]
theorem u8_of (M:Nat):u8V (UInt8.ofNat (M % 256))= .int .u8 ((M:Int) % 256):=by
 unfold u8V;rw [UInt8.toNat_ofNat'];congr 1;omega
def BbRel (N k:Nat)(w0:World)(n i:Value)(wr:World):Prop:=∃m j:Nat,m+j=k∧n= .int .u64 ((N / 256^j:Nat):Int)∧((m=0∧i= .int .i64 (-1))∨∃q:Nat,m=q+1∧i= .int .i64 q)∧
 wr.ownsRow w0.heap.size 5 1 (.slice (some ⟨w0.heap.size,0,none⟩) k k) k ((List.replicate m 0++ZbA N j).map u8V)∧Below w0.heap.size w0 wr
theorem ZhD (N k:Nat)(hN:N<18446744073709551616)(hk1:1≤k)(hk:k≤8)(w:World):
 Calls Tryz.prog 84 #[.int .u64 N,.int .i64 k] w fun e w'=>e= .returned (.string (B (ZbA N k)))∧Below w.heap.size w w':=by
 obtain⟨i0,hi,iz0,iz1,iz2⟩:=info_parts Zea;have hw:=fun w=>Zet k hk w;go_enter Tryz.func84,Tryz.ntmps84
 go_wp2_with (first|(go_at_call 122;refine(hw _).mono ?_;rintro e w1 ⟨rfl,rfl⟩)|(at_make;refine wpList_make_full _ rfl _ _ 158 rfl w.heap.size 5 i0 (.int .u8 0) 1 Tryz.underlying158 hi iz0 iz1 .i64 .i64 k k k rfl rfl rfl rfl (by rw [iz2];omega) (by unfold maxLen;omega) (Nat.le_refl _) ?_;intro w1 hown1 hg1))
 have hB1:Below w.heap.size w w1:=(Below.refl _ w).grown hg1 (Nat.le_refl _) (fun k h=>by cases h);go_loopw [0,6] (fun n i wr=>BbRel N k w n i wr) (fun _ i _=>(intOf i+1).toNat)
 case atStart=>
  refine⟨k,0,rfl,by simp,Zfj k,?_,hB1⟩;have e:(madeCells (Value.int .u8 0).cells (k*1)).toList=((List.replicate k 0++ZbA N 0).map u8V:List Value):=by
   rw [Nat.mul_one,show(Value.int .u8 0).cells=#[.int .u8 0] from rfl,toList_madeCells_one];simp [ZbA,u8V]
  rw [←e];exact hown1
 case round=>
  obtain⟨m,j,hmj,rfl,hi2,hown,hb⟩:=hrel;have hz:=hb.size;rcases hi2 with⟨rfl,rfl⟩|⟨q,rfl,rfl⟩
  · have hj:j=k:=by omega
    subst hj;rw [List.replicate_zero,List.nil_append] at hown;have hcv:=Zgc wr hown;clear hown;go_wp2_with fail
    go_ret
    exact⟨rfl,hb⟩
  · have hce:∃u,wr.cell? ⟨w.heap.size,q,none⟩=some u:=by
     have hl:=hown.1;exact⟨_,by rw [hown.cellAt q (by omega),List.getElem?_eq_getElem (by omega)]⟩
    obtain⟨u,hce⟩:=hce;have hfz:=hown.frozenAt q;have hgl:w.heap.size<wr.heap.size:=World.block_lt_of_cell? _ _ hce;have hst:=(hown.stored q (u8V (UInt8.ofNat (N / 256^j % 256)))).1;rw [←List.map_set,ZkN,u8_of] at hst;have Hst:=Lib.hid hst;have hNj:N / 256^j<18446744073709551616:=Nat.lt_of_le_of_lt (Nat.div_le_self _ _) hN;have hM:N / 256^(j+1)=N / 256^j / 256:=by rw [Nat.pow_succ,Nat.div_div_eq_div_mul]
    have HM:=Lib.hid hM;clear hst hown hM;generalize hMM:N / 256^j=M at*;have HMM:=Lib.hid hMM;clear hMM;go_wp2_with fail
    go_roundw
    case rel=>
     refine⟨q,j+1,by omega,by rw [HM.out];go_num,Zfj q,?_,hb.setCell (p:=⟨w.heap.size,q,none⟩) (Nat.le_refl _) _⟩;have:=Hst.out;rw [ZbA,HMM.out];exact this
    case measure=>simp [intOf]
def SbRel (N k:Nat)(w0:World)(n i:Value)(wr:World):Prop:=∃j:Nat,j≤k∧n= .int .u64 ((N / 256^j:Nat):Int)∧i= .int .i64 j∧
 wr.ownsRow w0.heap.size 5 1 (.slice (some ⟨w0.heap.size,0,none⟩) k k) k ((Zf N j++List.replicate (k - j) 0).map u8V)∧Below w0.heap.size w0 wr
theorem Zlb:∀(j N:Nat),Zf N (j+1)=Zf N j++[UInt8.ofNat (N / 256^j % 256)]
 |0,N=>by simp [Zf]
 |j+1,N=>by
  rw [Zf,Zlb j,Zf,Nat.div_div_eq_div_mul,List.cons_append];have:256*256^j=256^(j+1):=by rw [Nat.pow_succ];omega
  rw [this]
theorem Zdz (N k:Nat)(hN:N<18446744073709551616)(hk1:1≤k)(hk:k≤8)(w:World):
 Calls Tryz.prog 85 #[.int .u64 N,.int .i64 k] w fun e w'=>e= .returned (.string (B (Zf N k)))∧Below w.heap.size w w':=by
 obtain⟨i0,hi,iz0,iz1,iz2⟩:=info_parts Zea;have hw:=fun w=>Zet k hk w;go_enter Tryz.func85,Tryz.ntmps85
 go_wp2_with (first|(go_at_call 122;refine(hw _).mono ?_;rintro e w1 ⟨rfl,rfl⟩)|(at_make;refine wpList_make_full _ rfl _ _ 158 rfl w.heap.size 5 i0 (.int .u8 0) 1 Tryz.underlying158 hi iz0 iz1 .i64 .i64 k k k rfl rfl rfl rfl (by rw [iz2];omega) (by unfold maxLen;omega) (Nat.le_refl _) ?_;intro w1 hown1 hg1))
 have hB1:Below w.heap.size w w1:=(Below.refl _ w).grown hg1 (Nat.le_refl _) (fun k h=>by cases h);go_loopw [0,12] (fun n i wr=>SbRel N k w n i wr) (fun _ i _=>k - (intOf i).toNat)
 case atStart=>
  refine⟨0,by omega,by simp,rfl,?_,hB1⟩;have e:(madeCells (Value.int .u8 0).cells (k*1)).toList=((Zf N 0++List.replicate (k - 0) 0).map u8V:List Value):=by
   rw [Nat.mul_one,show(Value.int .u8 0).cells=#[.int .u8 0] from rfl,toList_madeCells_one];simp [Zf,u8V]
  rw [←e];exact hown1
 case round=>
  obtain⟨j,hj,rfl,rfl,hown,hb⟩:=hrel;have hz:=hb.size;by_cases hlt:j<k
  · have hce:∃u,wr.cell? ⟨w.heap.size,j,none⟩=some u:=by
     have hl:=hown.1;exact⟨_,by rw [hown.cellAt j (by omega),List.getElem?_eq_getElem (by omega)]⟩
    obtain⟨u,hce⟩:=hce;have hfz:=hown.frozenAt j;have hgl:w.heap.size<wr.heap.size:=World.block_lt_of_cell? _ _ hce;have hst:=(hown.stored j (u8V (UInt8.ofNat (N / 256^j % 256)))).1;have hr:List.replicate (k - j) (0:UInt8)=0::List.replicate (k - (j+1)) 0:=by
     rw [show k - j=(k - (j+1))+1 by omega,List.replicate_succ]
    have hset:=Zna (UInt8.ofNat (N / 256^j % 256)) 0 (Zf N j) (List.replicate (k - (j+1)) 0);rw [ZcP] at hset;rw [←List.map_set,hr,hset,u8_of,List.append_cons,←Zlb] at hst;have Hst:=Lib.hid hst;have hNj:N / 256^j<18446744073709551616:=Nat.lt_of_le_of_lt (Nat.div_le_self _ _) hN;have hM:N / 256^(j+1)=N / 256^j / 256:=by rw [Nat.pow_succ,Nat.div_div_eq_div_mul]
    have HM:=Lib.hid hM;clear hst hown hM hset hr;generalize N / 256^j=M at*;go_wp2_with fail
    go_roundw
    case rel=>exact⟨j+1,by omega,by rw [HM.out];go_num,by go_num,Hst.out,hb.setCell (p:=⟨w.heap.size,j,none⟩) (Nat.le_refl _) _⟩
    case measure=>simp [intOf];omega
  · have hjk:j=k:=by omega
    subst hjk;rw [Nat.sub_self,List.replicate_zero,List.append_nil] at hown;have hcv:=Zgc wr hown;clear hown;go_wp2_with fail
    go_ret
    exact⟨rfl,hb⟩
theorem Zbp (t:List UInt8)(i:Nat)(h:i<t.length):(B t)[i]'(by rw [Zm];exact h)=t[i]:=by simp [B];rfl
theorem and_u8 (m:UInt8)(z:Int)(c:UInt8)(hz:z=c.toNat):bits .and .u8 (m.toNat:Int) z=((m&&&c).toNat:Int):=by
 subst hz;have:=(bits_nat .u8 8 (by decide) (fun n h0 h1=>by rw [IntKind.wrap_u8];omega) m.toNat c.toNat m.toNat_lt c.toNat_lt).1;rw [this,UInt8.toNat_and]
theorem Zis (s:InS)(k:Nat)(hk:k≤8):(s.big k).1<256^k:=by
 unfold InS.big;simp only [Nat.min_eq_left hk];have h1:=ZcS s k;have h2:=(InS.bigN_lt (s.take k).1 (by omega)).1;exact Nat.lt_of_lt_of_le h2 (Nat.pow_le_pow_right (by decide) h1)
def six (f:Fr):Array Value:=#[.string (B f.id),.int .u8 f.st.toNat,.int .u8 f.fm.toNat,.int .u8 f.grp.toNat,.string (B f.body),.int .i64 f.at_]
section
variable {w w':World} {F:Nat} {f:Fr}
end
def Bx (w:World)(g:Nat)(cs:Array Value)(T:TypeId):Prop:=w.heap[g]? =some (.cells cs T (0,0))
section
variable {w w':World} {g:Nat} {cs:Array Value} {T:TypeId}
theorem Bx.new (w:World)(cs:Array Value)(T:TypeId):Bx (w.alloc (.cells cs T)) w.heap.size cs T:=heap_alloc_new w _
theorem Bx.lt (h:Bx w g cs T):g<w.heap.size:=(Array.getElem?_eq_some_iff.1 h).1
theorem Bx.below (h:Bx w g cs T)(hb:Below w.heap.size w w'):Bx w' g cs T:=(hb.block g (Bx.lt h)).trans h
theorem Bx.but {C:Nat} (h:Bx w g cs T)(hb:But C w.heap.size w w')(hC:g≠C):Bx w' g cs T:=(hb.block g (Bx.lt h) hC).trans h
theorem Bx.alloc (h:Bx w g cs T)(o:Obj):Bx (w.alloc o) g cs T:=h.below ((Below.refl _ _).alloc (Nat.le_refl _) _)
theorem Bx.set {k:Nat} (h:Bx w g cs T)(hk:g≠k)(j:Nat)(v:Value):Bx (w.setCell ⟨k,j,none⟩ v) g cs T:=(Zfe hk v).trans h
theorem Bx.cell (h:Bx w g cs T)(j:Nat):w.cell? ⟨g,j,none⟩=cs[j]?:=cell_of_row _ g j _ _ (0,0) h
theorem Bx.put (h:Bx w g cs T)(j:Nat)(v:Value):Bx (w.setCell ⟨g,j,none⟩ v) g (cs.setIfInBounds j v) T:=heap_setCell_same w g j _ _ v h
theorem Bx.free (h:Bx w g cs T)(j:Nat):w.frozen? ⟨g,j,none⟩=false:=frozen_of_row _ g j _ _ h
end
section
variable {w0 w w':World} {F R K:Nat} {f:Fr} {s s':InS}
end
section
variable {w0 w w':World} {F R K:Nat} {f:Fr} {s s':InS}
end
theorem results_cell_tmp {P:Program} {fn:Func} {p t:Tmp} {ty:TypeId} (h:fn.results=#[.cell p ty,.tmp t])(tmps:Array Value)(w:World)(g:Nat)(T:TypeId)(cs:Array Value)(fr:Nat×Nat)(d:TypeDesc)(u:Value)
 (hp:tmps.getD p undef= .pointer (some ⟨g,0,none⟩)) (ht:tmps.getD t undef=u) (hg:w.heap[g]? =some (.cells cs T fr))
 (hu:P.underlying ty=some d) (hd:(match d with| .struct _| .array _ _=>true|_=>false)=true) (hi:(P.info? ty).map (·.size)=some cs.size):
 (results fn tmps).run P w= .ok (.tuple #[.agg cs,u]) w:=by
 have hp':tmps[p]?.getD undef= .pointer (some ⟨g,0,none⟩):=by simpa using hp
 have ht':tmps[t]?.getD undef=u:=by simpa using ht
 simp [results,h,hp',ht',asAddr,run_loadVar_row w g T ty cs fr d hg hu hd hi]
theorem Bx.zero6 {w:World} {g:Nat} {T:TypeId} {x0 x1 x2 x3 x4 x5:Value} (h:Bx w g #[x0,x1,x2,x3,x4,x5] T)(a b c d e f:Value):Bx ((((((w.setCell ⟨g,0,none⟩ a).setCell ⟨g,1,none⟩ b).setCell ⟨g,2,none⟩ c).setCell ⟨g,3,none⟩ d).setCell ⟨g,4,none⟩ e).setCell ⟨g,5,none⟩ f) g #[a,b,c,d,e,f] T:=by
 have h0:Bx (w.setCell ⟨g,0,none⟩ a) g #[a,x1,x2,x3,x4,x5] T:=h.put 0 a;have h1:Bx _ g #[a,b,x2,x3,x4,x5] T:=h0.put 1 b;have h2:Bx _ g #[a,b,c,x3,x4,x5] T:=h1.put 2 c;have h3:Bx _ g #[a,b,c,d,x4,x5] T:=h2.put 3 d;have h4:Bx _ g #[a,b,c,d,e,x5] T:=h3.put 4 e;exact h4.put 5 f
section
variable {w0 w w':World} {T R K:Nat} {v:Int} {rev fl:UInt8} {s s':InS}
end
theorem Bx.three {w:World} {g:Nat} {T:TypeId} {x0 x1 x2:Value} (h:Bx w g #[x0,x1,x2] T)(a b c:Value):Bx (((w.setCell ⟨g,0,none⟩ a).setCell ⟨g,1,none⟩ b).setCell ⟨g,2,none⟩ c) g #[a,b,c] T:=by
 have h0:Bx (w.setCell ⟨g,0,none⟩ a) g #[a,x1,x2] T:=h.put 0 a;have h1:Bx _ g #[a,b,x2] T:=h0.put 1 b;exact h1.put 2 c
def Zg {α:Type} (f:α→List Value)(B:Nat)(w:World)(v:Value)(l:List α):Prop:=
 (l=[]∧v= .slice none 0 0)∨∃bk c:Nat,l≠[]∧v= .slice (some ⟨bk,0,none⟩) l.length c∧l.length≤c∧B≤bk∧bk<w.heap.size∧∀j u,(l.flatMap f)[j]? =some u→w.cell? ⟨bk,j,none⟩=some u
section
variable {α:Type} {m:Nat} {f:α→List Value} {B:Nat} {w w':World} {v:Value} {l:List α}
theorem Zg.below (h:Zg f B w v l)(hb:Below w.heap.size w w'):Zg f B w' v l:=by
 rcases h with h|⟨bk,c,h0,h1,h2,h5,h3,h4⟩
 · exact .inl h
 · exact .inr ⟨bk,c,h0,h1,h2,h5,Nat.lt_of_lt_of_le h3 hb.size,fun j u hu=>(hb.cell (p:=⟨bk,j,none⟩) h3).trans (h4 j u hu)⟩
theorem Zg.but {C:Nat} (h:Zg f B w v l)(hb:But C w.heap.size w w')(hC:C<B):Zg f B w' v l:=by
 rcases h with h|⟨bk,c,h0,h1,h2,h5,h3,h4⟩
 · exact .inl h
 · exact .inr ⟨bk,c,h0,h1,h2,h5,Nat.lt_of_lt_of_le h3 hb.size,fun j u hu=>(hb.cell (p:=⟨bk,j,none⟩) h3 (by show bk≠C;omega)).trans (h4 j u hu)⟩
theorem Zg.low {B':Nat} (h:Zg f B w v l)(hB:B'≤B):Zg f B' w v l:=by
 rcases h with h|⟨bk,c,h0,h1,h2,h5,h3,h4⟩
 · exact .inl h
 · exact .inr ⟨bk,c,h0,h1,h2,by omega,h3,h4⟩
theorem Zg.len (h:Zg f B w v l):∃A c,v= .slice A l.length c∧l.length≤c:=by
 rcases h with⟨h,h1⟩|⟨bk,c,h0,h1,h2,_⟩
 · subst h;exact⟨none,0,h1,Nat.le_refl _⟩
 · exact⟨_,c,h1,h2⟩
theorem Zg.of_own {base:Nat} {e:TypeId} {n:Nat} (hn:n=l.length)(h:w.ownsRow base e m v n (l.flatMap f))(h0:l=[]→v= .slice none 0 0):Zg f base w v l:=by
 by_cases hl:l=[]
 · exact .inl ⟨hl,h0 hl⟩
 · right
   rcases h.2 with⟨_,h1⟩|⟨g,cap,cur,rfl,hb,hg,hnc,hcm,hcs,htake⟩
   · rw [hn] at h1;exact absurd (List.length_eq_zero_iff.1 h1) hl
   · subst hn;refine⟨g,cap,hl,rfl,hnc,hb,(Array.getElem?_eq_some_iff.1 hg).1,fun j u hu=> ?_⟩;have:=h.cells (g:=g) rfl j u hu;have hadd:(⟨g,0,none⟩:Addr).add j=⟨g,j,none⟩:=by unfold Addr.add;split<;>simp_all
     rw [hadd] at this;exact this
end
theorem ZcC {α:Type} (m:Nat)(f:α→List Value)(hf:∀x,(f x).length=m):∀l:List α,(l.flatMap f).length=l.length*m
 |[]=>by simp
 |x::l=>by rw [List.flatMap_cons,List.length_append,hf,ZcC m f hf l,List.length_cons,Nat.succ_mul];omega
theorem Zgo {α:Type} (m:Nat)(f:α→List Value)(hf:∀x,(f x).length=m):∀(l:List α) (k j:Nat) (x:α),l[k]? =some x→j<m→(l.flatMap f)[k*m+j]? =(f x)[j]?
 |y::l,0,j,x,h,hj=>by
  simp only [List.getElem?_cons_zero,Option.some.injEq] at h;subst h;rw [List.flatMap_cons,List.getElem?_append_left (by rw [hf];omega)];congr 1
  omega
 |y::l,k+1,j,x,h,hj=>by
  rw [List.getElem?_cons_succ] at h;rw [List.flatMap_cons,List.getElem?_append_right (by rw [hf,Nat.succ_mul];omega),hf,←Zgo m f hf l k j x h hj];congr 1
  rw [Nat.succ_mul];omega
theorem Zco (w:World)(cs:List Value)(T:TypeId):∀j u,cs[j]? =some u→(w.alloc (.cells cs.toArray T)).cell? ((⟨w.heap.size,0,none⟩:Addr).add j)=some u:=by
 intro j u hu;have hadd:(⟨w.heap.size,0,none⟩:Addr).add j=⟨w.heap.size,j,none⟩:=by unfold Addr.add;split<;>simp_all
 rw [hadd,cell_of_row _ w.heap.size j _ T (0,0) (heap_alloc_new w _)];simpa using hu
section
variable {ops:Array Oper} {rest:List Oper} {o:Oper} {a:Act} {Q:Exit→Act→World→Prop}
end
def lenV:Value→Nat
 | .slice _ n _=>n
 |_=>0
theorem ZbF {w:World} {base:Nat} {e:TypeId} {size:Nat} {v:Value} {n:Nat} {xs:List Value} (h:w.ownsRow base e size v n xs):lenV v=n∧∃A c,v= .slice A n c∧n≤c:=by
 rcases h.2 with⟨rfl,rfl⟩|⟨g,cap,cur,rfl,hb,hg,hnc,_⟩
 · exact⟨rfl,none,0,rfl,Nat.le_refl _⟩
 · exact⟨rfl,_,_,rfl,hnc⟩
section
variable {w0 w w':World} {K:Nat} {v:Int} {rev fl:UInt8} {fs:List Fr} {vl:Value} {s s':InS}
end
theorem ZkZ {B g:Nat} {w wx:World} (h:Below B w wx)(hg:B≤g)(q b c d e f:Value):Below B w ((((((wx.setCell ⟨g,0,none⟩ q).setCell ⟨g,1,none⟩ b).setCell ⟨g,2,none⟩ c).setCell ⟨g,3,none⟩ d).setCell ⟨g,4,none⟩ e).setCell ⟨g,5,none⟩ f):=
 (((((h.setCell (p:=⟨g,0,none⟩) hg q).setCell (p:=⟨g,1,none⟩) hg b).setCell (p:=⟨g,2,none⟩) hg c).setCell (p:=⟨g,3,none⟩) hg d).setCell (p:=⟨g,4,none⟩) hg e).setCell (p:=⟨g,5,none⟩) hg f
theorem Bx.same6 {w w':World} {g B:Nat} {cs:Array Value} {T:TypeId} (h:Bx w g cs T)(hb:Below B w w')(hg:g<B):Bx w' g cs T:=(hb.block g hg).trans h
namespace InS
end InS
theorem Zbg {P:Program} {fn:Func} {t q:Tmp} {ty2:TypeId} (h:fn.results=#[.tmp t,.cell q ty2])(tmps:Array Value)(w:World)(k:Nat)(T2:TypeId)(cs2:Array Value)(fr2:Nat×Nat)(d2:TypeDesc)(u:Value)
 (ht:tmps.getD t undef=u) (hq:tmps.getD q undef= .pointer (some ⟨k,0,none⟩)) (hk:w.heap[k]? =some (.cells cs2 T2 fr2))
 (hu2:P.underlying ty2=some d2) (hd2:(match d2 with| .struct _| .array _ _=>true|_=>false)=true) (hi2:(P.info? ty2).map (·.size)=some cs2.size):
 (results fn tmps).run P w= .ok (.tuple #[u,.agg cs2]) w:=by
 have ht':tmps[t]?.getD undef=u:=by simpa using ht
 have hq':tmps[q]?.getD undef= .pointer (some ⟨k,0,none⟩):=by simpa using hq
 simp [results,h,ht',hq',asAddr,run_loadVar_row w k T2 ty2 cs2 fr2 d2 hk hu2 hd2 hi2]
section
variable {w0 w w':World} {K H:Nat} {v:Int} {rev fl:UInt8} {s s':InS}
end
theorem Zni {B:Nat} {a w:World} (h:Below B a w):Below B a w.drew:=below_drewN h 1
theorem Za9 {w:World} {g:Nat} {T:TypeId} {x0 x1:Value} (h:Bx w g #[x0,x1] T)(a b:Value):Bx ((w.setCell ⟨g,0,none⟩ a).setCell ⟨g,1,none⟩ b) g #[a,b] T:=by
 have h0:Bx (w.setCell ⟨g,0,none⟩ a) g #[a,x1] T:=h.put 0 a;exact h0.put 1 b
theorem Zg.set {α:Type} {f:α→List Value} {B:Nat} {w:World} {v:Value} {l:List α} (h:Zg f B w v l){g:Nat} (hg:g<B)(j:Nat)(u:Value):Zg f B (w.setCell ⟨g,j,none⟩ u) v l:=by
 rcases h with h|⟨bk,c,h0,h1,h2,h5,h3,h4⟩
 · exact .inl h
 · exact .inr ⟨bk,c,h0,h1,h2,h5,by simpa using h3,fun i x hx=>by rw [World.cell?_setCell_other _ _ _ _ (fun e=>by injection e with e;omega)];exact h4 i x hx⟩
theorem Zh8 (t:List UInt8)(h1:t.length≤1000000000)(w:World):
 Calls Tryz.prog 52 #[.string (B t)] w fun e w'=>∃K,e= .returned (.pointer (some ⟨K,0,none⟩))∧InAt w' K ⟨t,0,0,0,0⟩∧Below w.heap.size w w'∧w.heap.size≤K∧K<w'.heap.size:=
 (Zmv t h1 w).mono fun _ _ ⟨a,b,c,d⟩=>⟨_,a,b,c,Nat.le_refl _,by omega⟩
def sV (y:List UInt8):Value:= .string (B y)
theorem Zd0:(Tryz.prog.info? 9).map (fun i=>(i.zero,i.size,i.bytes))=some (some (.string ⟨#[]⟩),1,16):=by kernel_rfl
section
variable {ops:Array Oper} {rest:List Oper} {o:Oper} {a:Act} {Q:Exit→Act→World→Prop}
theorem app_s1 (hgd:o.guard=none)(s x:Operand)(ho:o.op= .call {callee:= .builtin .append,args:=#[s,x],argTypes:=#[78,78]}) (base:Nat) (v:Value) (L:List (List UInt8)) (hs:a.eval s=v) (W:World) (y:List UInt8)
 (hown:W.ownsRow base 9 1 v L.length (L.map sV)) (hbase:base≤W.heap.size) (hlen:L.length≤16777216) (hx:a.eval x= .slice (some ⟨W.heap.size,0,none⟩) 1 1)
 (h:∀v' w',Hid (w'.ownsRow base 9 1 v' (L++[y]).length ((L++[y]).map sV))→Below base W w'→W.grownBy w' v.ownBlock→wpList Tryz.prog ops Q rest (a.put o.dst v') w'):
 wpList Tryz.prog ops Q (o::rest) a (W.alloc (.cells #[.string (B y)] 9)):=by
 obtain⟨i0,hi,iz0,iz1,iz2⟩:=info_parts Zd0;refine wpList_append_own _ hgd s x 78 ho base 9 i0 _ 1 16 Tryz.underlying78 hi iz0 iz1 iz2 rfl (by decide) v L.length _ hs (hown.alloc _) ⟨W.heap.size,0,none⟩ 1 1 [sV y] hx rfl (Zco W [sV y] _) ?_ (by unfold maxLen;omega) (by omega) (by simp;omega) ?_
 · intro u hu;simp only [List.mem_singleton] at hu;subst hu;rfl
 · intro v6 w6 hown6 hg6 _;refine h v6 w6 (Lib.hid ?_) (Z3 ((Below.refl _ W).alloc hbase _) (hown.alloc _) hg6 (by simp;omega) (Nat.le_refl _)) ⟨hg6.os,hg6.tape,hg6.output,by have:=hg6.size;simp at this;omega,fun k hk hc=>(hg6.block k (by simp;omega) hc).trans (Below.heap_alloc _ _ _ hk)⟩;rw [List.length_append,List.map_append];exact hown6
end
theorem Zgq (l:List (List UInt8)):l.flatMap (fun y=>[sV y])=l.map sV:=by induction l with|nil=>rfl|cons a l ih=>rw [List.flatMap_cons,ih];rfl
theorem SJoin {base:Nat} {v:Value} {l:List (List UInt8)} {w:World} (h:w.ownsRow base 9 1 v l.length (l.map sV))(hl:l≠[])(hf:l.flatten.length≤35184372089000)(hn:l.length≤35184372089000):
 Calls Tryz.prog 19 #[v] w fun e w'=>e= .returned (.string (B l.flatten))∧Below w.heap.size w w':=by
 have hr:Zg (fun y=>[sV y]) base w v l:=Zg.of_own (e:=9) (m:=1) rfl (by rw [Zgq];exact h) (fun e=>absurd e hl);rcases hr with⟨h0,_⟩|⟨bk,c,h0,rfl,h2,h5,h3,h4⟩
 · exact absurd h0 hl
 · rw [Zgq] at h4;exact Zek bk c l w (fun j x hx=>h4 j _ (by rw [List.getElem?_map,hx];rfl)) hl h2 hf hn
theorem Znj (x:UInt8):ZbA x.toNat 1=[x]:=by
 have:=x.toNat_lt;simp only [ZbA,Nat.pow_zero,Nat.div_one];rw [Nat.mod_eq_of_lt this];simp
theorem ZlC (x:UInt8)(w:World):Calls Tryz.prog 84 #[.int .u64 x.toNat,.int .i64 1] w fun e w'=>e= .returned (.string (B [x]))∧Below w.heap.size w w':=by
 have h:=ZhD x.toNat 1 (by have:=x.toNat_lt;omega) (by omega) (by omega) w;rw [Znj] at h;exact h
end Go.Proofs.YtnbkfkbcpfkddaaGreatDoor
