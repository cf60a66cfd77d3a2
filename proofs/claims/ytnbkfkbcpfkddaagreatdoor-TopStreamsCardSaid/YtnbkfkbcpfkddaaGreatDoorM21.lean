/- Lemmas for a statement on the tops; conditions: as each says. -/
import Derived.Lib.AppendZeros
import Derived.Shelf.SlSortCmp.NoneTotal
import Derived.Test.YtnbkfkbcpfkddaaGreatDoorM20
set_option linter.unusedVariables false
set_option linter.unusedSimpArgs false
set_option maxRecDepth 100000
set_option maxHeartbeats 4000000
namespace Go.Proofs.YtnbkfkbcpfkddaaGreatDoor
open Go Go.RowKit Go.Lib
theorem ZhA (zv:Value)(m:Nat):Builtin.zeroCells #[zv] m=(List.replicate m zv).toArray:=by
 unfold Builtin.zeroCells;apply Array.ext
 · simp
 · intro i h1 h2;simp [Nat.mod_one]
section
variable {P:Program}
theorem ZpR (w:World)(base:Nat)(t tn ty e:TypeId)(i:TypeInfo)(z zv:Value)(ht:P.underlying t=some (.slice e))(htn:P.underlying tn=some (.int .i64))(hi:P.info? e=some i)(hz:i.zero=some z)
 (hsize:i.size=1) (hby:i.bytes=1) (hzc:z.cells=#[zv]) (h1:zv.oneCell'=true) (v:Value) (n:Nat) (xs:List Value) (hown:w.ownsRow base e 1 v n xs) (m:Nat) (hm:0<m) (hN:n+m≤2000000) (hbase:base≤w.heap.size):
 ∃v' w',(Builtin.append_ #[t,tn] ty #[v,.int .i64 m]).run P w= .ok v' w'∧w'.ownsRow base e 1 v' (n+m) (xs++List.replicate m zv)∧w.grownBy w' v.ownBlock:=by
 have hlen:(xs++List.replicate m zv).length=(n+m)*1:=by rw [List.length_append,hown.1];simp
 have hw:IntKind.i64.wrap (m:Int)=m:=by rw [IntKind.wrap_i64];omega
 have hneg:¬((m:Int)<0):=by omega
 have h48i:¬(281474976710656<(m:Int)):=by omega
 have hm0:¬m=0:=by omega
 have h1a:∀u∈List.replicate m zv,u.oneCell'=true:=fun u hu=>by rw [List.eq_of_mem_replicate hu];exact h1
 have grown:∀(old:Nat),old<n+m→∀(row:Option Nat),
  (w.drew.alloc (.cells (xs.toArray++(List.replicate m zv).toArray++Builtin.zeroCells z.cells (grownCap w (n+m) old e - (n+m))) e)).ownsRow base e 1
   (.slice (some ⟨w.heap.size,0,none⟩) (n+m) (grownCap w (n+m) old e)) (n+m) (xs++List.replicate m zv)∧
  w.grownBy (w.drew.alloc (.cells (xs.toArray++(List.replicate m zv).toArray++Builtin.zeroCells z.cells (grownCap w (n+m) old e - (n+m))) e)) row:=by
  intro old ho row;have hge:=grownCap_ge w (n+m) old e;have hcm:grownCap w (n+m) old e≤maxLen:=grownCap_le_maxLen w (n+m) old e (by unfold maxLen;omega);refine⟨⟨hlen,.inr ⟨w.heap.size,_,_,rfl,hbase,heap_alloc_new w.drew _,hge,hcm,?_,?_⟩⟩,⟨rfl,rfl,rfl,by simp,fun k hk _=>by apply heap_alloc_old;exact hk⟩⟩
  · rw [hzc];simp only [Array.size_append,List.size_toArray,size_zeroCells,hown.1,List.length_replicate];simp;omega
  · simp only [Array.toList_append,List.append_assoc];rw [←List.append_assoc,←hlen];exact List.take_left
 rcases hown.2 with⟨rfl,rfl⟩|⟨g,cap,cur,rfl,hbg,hg,hnc,hcm,hcs,htake⟩
 · have hx:xs=[]:=List.eq_nil_of_length_eq_zero (by simpa using hown.1);subst hx;have hr:=run_append_nil_zeros (P:=P) w t tn ty e i z .i64 .i64 ht htn hi hz m hm (by omega) (by omega) (by rw [hby];omega);have hgr:=grown 0 (by omega) (Value.ownBlock (.slice none 0 0));rw [hzc,ZhA] at hr;simp only [Nat.zero_add,List.nil_append,Array.empty_append,hzc] at hgr⊢;exact⟨_,_,hr,hgr.1,hgr.2⟩
 · by_cases hroom:n+m≤cap
   · have hfit:n*1+(List.replicate m zv).length≤cur.size:=by rw [hcs];simp;omega
     have hst:=run_storeCells_at P g (n*1) e (List.replicate m zv) 0 cur w hg (by simpa using hfit) h1a;simp only [Nat.add_zero] at hst;have hr:(Builtin.append_ #[t,tn] ty #[.slice (some ⟨g,0,none⟩) n cap,.int .i64 m]).run P w= .ok (.slice (some ⟨g,0,none⟩) (n+m) cap) (w.setRow g (cur.toList.take (n*1)++List.replicate m zv++cur.toList.drop (n*1+(List.replicate m zv).length)).toArray):=by
      simp [Builtin.append_,run_underlying ht,run_underlying htn,sizeOf,typeInfo,zeroValue,hi,hz,hsize,hby,hzc,ZhA,asInt,asIntOf,hw,hneg,h48i,hroom,hm0,Addr.add_lit,Nat.mul_one] at hst⊢;rw [hst];rfl
     refine⟨_,_,hr,⟨hlen,.inr ⟨g,cap,_,rfl,hbg,setRow_heap w g cur _ e _ hg,hroom,hcm,?_,?_⟩⟩,⟨rfl,rfl,rfl,by simp,fun k _ hk=>setRow_other w g k _ (fun e=>hk (by simp [Value.ownBlock,e]))⟩⟩
     · simp only [List.size_toArray,List.length_append,List.length_take,List.length_drop,Array.length_toList];omega
     · rw [htake,←hlen];exact List.take_left
   · have holds:∀j u,xs[j]? =some u→w.cell? ((⟨g,0,none⟩:Addr).add j)=some u:=hown.cells (g:=g) rfl;have hn:¬(n+m≤cap):=by omega
     have h63':¬(9223372036854775807<((n:Int)+(m:Int))):=by omega
     have h48':¬(281474976710656<Builtin.nextslicecap (n+m) cap):=by
      have:=growslice_fits (need:=n+m) (bytes:=1) (by omega:cap<n+m) (by omega);omega
     have hfo:=run_firstCells_some (P:=P) w.drew 1 n ⟨g,0,none⟩ n cap xs hown.1 (by simpa using holds);have hr:(Builtin.append_ #[t,tn] ty #[.slice (some ⟨g,0,none⟩) n cap,.int .i64 m]).run P w= .ok (.slice (some ⟨w.heap.size,0,none⟩) (n+m) (grownCap w (n+m) cap e)) (w.drew.alloc (.cells (xs.toArray++(List.replicate m zv).toArray++Builtin.zeroCells z.cells (grownCap w (n+m) cap e - (n+m))) e)):=by
      simp [Builtin.append_,run_underlying ht,run_underlying htn,sizeOf,typeInfo,zeroValue,hi,hz,hsize,hby,hzc,ZhA,asInt,asIntOf,hw,hneg,h48i,hn,h63',h48',hm0,Question.forced,hfo,newRow,grownCap]
     have hgr:=grown cap (by omega) (Value.ownBlock (.slice (some ⟨g,0,none⟩) n cap));exact⟨_,_,hr,hgr.1,hgr.2⟩
end
end Go.Proofs.YtnbkfkbcpfkddaaGreatDoor
namespace Go.Proofs.YtnbkfkbcpfkddaaGreatDoor
open Go Go.RowKit
def Zfv (base:Nat)(v:Value)(rs:List (Rw×Sl))(w0:World)(e:Ending)(w':World):Prop:=
 e= .returned (.tuple #[])∧∃A c,∃rs':List (Rw×Sl),v= .slice A rs.length c∧rs.length≤c∧rs'.Perm rs∧rs'.Pairwise (fun a b=>a.1.1≤b.1.1)∧Zbz w' w'.heap.size A rs'∧Below base w0 w'∧w0.grownBy w' v.ownBlock
theorem ZhF (base:Nat)(v:Value)(rs:List (Rw×Sl))(w:World)(h:w.ownsRow base 322 4 v rs.length (rs.flatMap rV))(hbase:base≤w.heap.size)(hn:rs.length<4611686018427387904):
 Calls Tryz.prog 310 #[v] w (Zfv base v rs w):=by
 have hfin:∃A c,v= .slice A rs.length c∧rs.length≤c∧Calls Tryz.prog 344 #[.slice A rs.length c,.func (.func 345) #[] #[]] w (Zfv base v rs w):=by
  by_cases h0:rs=[]
  · subst h0;obtain⟨A,c,hv,hc,_⟩:=Reads.of_own h;refine⟨A,c,hv,hc,?_⟩;have:=AnyF.slices_SortFunc_none Tryz.laysSort A c (.func (.func 345) #[] #[]) w;change Calls Tryz.prog 344 _ _ _ at this
    refine this.mono ?_;rintro e w' ⟨rfl,rfl⟩;refine⟨rfl,A,c,[],hv,hc,List.Perm.refl _,by simp,⟨Reads.none_,?_⟩,Below.refl _ _,⟨rfl,rfl,rfl,Nat.le_refl _,fun _ _ _=>rfl⟩⟩;intro ad hA;subst hA;rw [hv] at h;exact Zki h
  · have hpos:0<rs.length:=List.length_pos_iff.2 h0;rcases h.2 with⟨_,h2⟩|⟨g,cap,cur,rfl,hbg,hg,hnc,hcm,hcs,htake⟩
    · omega
    · refine⟨_,cap,rfl,hnc,?_⟩;refine(ZmO base g cap rs w h hbase hn).mono ?_;rintro e w' ⟨rfl,rs',h1,h2,h3,h4,h5,h6⟩;have hlt:=(h.lt g rfl).2;refine⟨rfl,_,cap,rs',rfl,hnc,h1,h2,⟨⟨ZdL rV ZcM rs',fun _=>⟨_,rfl,by show g<_;omega,fun j u hu=> ?_⟩⟩,fun ad had=>by injection had with had;subst had;rfl⟩,h5,h6⟩;rw [addr_eq rfl];simpa using h3 j u hu
 obtain⟨A,c,hv,hc,hs⟩:=hfin;generalize hP:Zfv base v rs w=P at*;subst hv;go_enter Tryz.func310,Tryz.ntmps310
 go_wp2_with (go_at_call 344;refine hs.mono ?_;intro e w1 hp1;have he:e= .returned (.tuple #[]):=(by rw [←hP] at hp1;exact hp1.1);subst he)
 go_end0
 exact hp1
def Za2 (l:List Bool)(a b:Nat):List Bool:=l.mapIdx fun j x=>x||(decide (a≤j)&&decide (j<b))
theorem Zdo (l:List Bool)(a b:Nat):(Za2 l a b).length=l.length:=by simp [Za2]
theorem Zhd (l:List Bool)(a b c:Nat)(hc:c<l.length):(Za2 l a b)[c]? =some (l[c]||(decide (a≤c)&&decide (c<b))):=by
 unfold Za2;rw [List.getElem?_mapIdx,List.getElem?_eq_getElem hc];rfl
theorem Zk1 (l:List Bool)(a:Nat):Za2 l a a=l:=by
 apply List.ext_getElem?
 intro j;unfold Za2;rw [List.getElem?_mapIdx];cases l[j]? with
 |none=>rfl
 |some x=>
  simp only [Option.map_some];congr 1
  by_cases h:a≤j
  · rw [decide_eq_false (by omega:¬j<a)];simp
  · rw [decide_eq_false h];simp
theorem Zk0 (l:List Bool)(a c:Nat)(h:a≤c):Za2 l a (c+1)=(Za2 l a c).set c true:=by
 apply List.ext_getElem?
 intro j;rw [List.getElem?_set];unfold Za2;rw [List.getElem?_mapIdx,List.getElem?_mapIdx,List.length_mapIdx];by_cases hj:c=j
 · subst hj;rw [if_pos rfl];by_cases hl:c<l.length
   · rw [if_pos hl,List.getElem?_eq_getElem hl];simp only [Option.map_some];rw [decide_eq_true h,decide_eq_true (by omega:c<c+1)];simp
   · rw [if_neg hl,List.getElem?_eq_none (by omega)];rfl
 · rw [if_neg hj];cases l[j]? with
   |none=>rfl
   |some x=>
    simp only [Option.map_some];have:decide (j<c+1)=decide (j<c):=decide_eq_decide.2 (by omega);rw [this]
def Zcf (bits:List Bool)(acc:List Rw):Prop:=(∀r∈acc,r.1+r.2.1≤bits.length)∧∀c,c<bits.length→bits[c]? =some (acc.any fun q=>decide (q.1≤c)&&decide (c<q.1+q.2.1))
theorem Zqe:Zcf [] []:=⟨by simp,by simp⟩
theorem Zqd {bits:List Bool} {acc:List Rw} (h:Zcf bits acc)(m:Nat):Zcf (bits++List.replicate m false) acc:=by
 obtain⟨h1,h2⟩:=h;refine⟨fun r hr=>by have:=h1 r hr;simp;omega,fun c hc=> ?_⟩;by_cases hl:c<bits.length
 · rw [List.getElem?_append_left hl];exact h2 c hl
 · simp only [List.length_append,List.length_replicate] at hc;rw [List.getElem?_append_right (by omega),List.getElem?_replicate,if_pos (by omega)];congr 1
   symm
   rw [List.any_eq_false];intro q hq;have:=h1 q hq;simp;omega
theorem ZkX {bits:List Bool} {acc:List Rw} {r:Rw} {c:Nat} (h:Zcf bits acc)(hc:r.1≤c∧c<r.1+r.2.1)(hb:bits[c]? =some true):ovl acc r=true:=by
 have hl:c<bits.length:=by
  rcases Nat.lt_or_ge c bits.length with h1|h1
  · exact h1
  · rw [List.getElem?_eq_none h1] at hb;cases hb
 rw [h.2 c hl] at hb;injection hb with hb
 obtain⟨q,hq,hq2⟩:=List.any_eq_true.1 hb;refine List.any_eq_true.2 ⟨q,hq,?_⟩;simp only [Bool.and_eq_true,decide_eq_true_eq] at hq2⊢;omega
theorem ZkY {bits:List Bool} {acc:List Rw} {r:Rw} (h:Zcf bits acc)(hok:∀q∈acc,1≤q.2.1)(hr:1≤r.2.1)(he:r.1+r.2.1≤bits.length)(hb:∀c,r.1≤c→c<r.1+r.2.1→bits[c]? =some false):
 ovl acc r=false∧Zcf (Za2 bits r.1 (r.1+r.2.1)) (acc++[r]):=by
 constructor
 · rw [ovl,List.any_eq_false];intro q hq hc;simp only [Bool.and_eq_true,decide_eq_true_eq] at hc;have h1:=hok q hq;have h2:=hb (max q.1 r.1) (by omega) (by omega);rw [h.2 _ (by omega)] at h2;injection h2 with h2
   have h3:=List.any_eq_false.1 h2 q hq;simp only [Bool.and_eq_true,decide_eq_true_eq,not_and] at h3;omega
 · refine⟨fun q hq=> ?_,fun c hc=> ?_⟩
   · rw [Zdo];rcases List.mem_append.1 hq with h1|h1
     · exact h.1 q h1
     · simp only [List.mem_singleton] at h1;subst h1;exact he
   · rw [Zdo] at hc;rw [Zhd _ _ _ _ hc];have h2:=h.2 c hc;rw [List.getElem?_eq_getElem hc] at h2;injection h2 with h2
     rw [h2,List.any_append];simp
theorem Zg6:(Tryz.prog.info? 322).map (fun i=>(i.zero,i.size,i.bytes))=some (some (.agg #[.int .i64 0,.int .i64 0,.int .i32 0,.slice none 0 0]),4,48):=by kernel_rfl
theorem Znl:(Tryz.prog.info? 4).map (fun i=>(i.zero,i.size,i.bytes))=some (some (.bool false),1,1):=by kernel_rfl
theorem ZgM {w:World} {b1 b2 s1 s2 n1 n2:Nat} {e1 e2:TypeId} {v1:Value} {g c:Nat} {x1 x2:List Value} (h1:w.ownsRow b1 e1 s1 v1 n1 x1)(h2:w.ownsRow b2 e2 s2 (.slice (some ⟨g,0,none⟩) n2 c) n2 x2)(hne:e1≠e2):v1.ownBlock≠some g:=by
 rcases h1.2 with⟨rfl,_⟩|⟨g1,cap,cur,rfl,hb,hg,rest⟩
 · simp [Value.ownBlock]
 · rcases h2.2 with⟨h,_⟩|⟨g2,cap2,cur2,he,hb2,hg2,rest2⟩
   · cases h
   · injection he with he
     injection he with he
     injection he with he
     subst he;simp only [Value.ownBlock,ne_eq,Option.some.injEq];rintro rfl;rw [hg] at hg2;injection hg2 with hg2
     injection hg2 with _ h2 _
     exact hne h2
theorem ZgN {w:World} {b1 b2 s1 s2 n1 n2:Nat} {e1 e2:TypeId} {v1 v2:Value} {x1 x2:List Value} (h1:w.ownsRow b1 e1 s1 v1 n1 x1)(h2:w.ownsRow b2 e2 s2 v2 n2 x2)(hne:e1≠e2):v1.ownBlock=none∨v1.ownBlock≠v2.ownBlock:=by
 rcases h2.2 with⟨rfl,_⟩|⟨g2,cap2,cur2,rfl,hb2,hg2,rest2⟩
 · cases h:v1.ownBlock with
   |none=>exact .inl rfl
   |some k=>exact .inr (by simp [Value.ownBlock])
 · exact .inr (ZgM h1 h2 hne)
theorem Zbt {w w':World} {B b s n:Nat} {e:TypeId} {v:Value} {xs:List Value} {x:Rw×Sl} (h:ZA w B x)(hown:w.ownsRow b e s v n xs)(hne:e≠21)(hg:w.grownBy w' v.ownBlock)(hB:B≤w.heap.size):ZA w' B x:=
 h.keep fun k hk ⟨cs,fr,hh⟩=>by
  refine hg.block k (by omega) ?_;rcases hown.2 with⟨rfl,_⟩|⟨g,cap,cur,rfl,hb,hg2,rest⟩
  · simp [Value.ownBlock]
  · simp only [Value.ownBlock,ne_eq,Option.some.injEq];rintro rfl;rw [hh] at hg2;injection hg2 with hg2
    injection hg2 with _ h2 _
    exact hne h2.symm
theorem Zq {w w1:World} {K:Nat} {o:Obj} (h:w.heap[K]? =some o)(hb:Below w.heap.size w w1):w1.heap[K]? =some o:=
 (hb.block K (Array.getElem?_eq_some_iff.1 h).1).trans h
def ZaJ (w:World)(rs:List (Rw×Sl)):Prop:=∀x∈rs,Zah x.1∧ZA w w.heap.size x
theorem ZaJ.below {w w':World} {rs:List (Rw×Sl)} (h:ZaJ w rs)(hb:Below w.heap.size w w'):ZaJ w' rs:=fun x hx=>⟨(h x hx).1,((h x hx).2.below hb).more hb.size⟩
theorem ZaJ.grown {w w':World} {b s n:Nat} {e:TypeId} {v:Value} {xs:List Value} {rs:List (Rw×Sl)} (h:ZaJ w rs)(hown:w.ownsRow b e s v n xs)(hne:e≠21)(hg:w.grownBy w' v.ownBlock):ZaJ w' rs:=
 fun x hx=>⟨(h x hx).1,(Zbt (h x hx).2 hown hne hg (Nat.le_refl _)).more hg.size⟩
def NwOk (l:List Pce)(rs:List (Rw×Sl)):Prop:=∃rs0:List (Rw×Sl),Z7 [] l 0= .inl (rs0.map (·.1))∧rs.Perm rs0∧rs.Pairwise fun a b=>a.1.1≤b.1.1
def Zej (l:List Pce)(w0:World)(e:Ending)(w':World):Prop:=
 ((∃A c rs,NwOk l rs∧rs.length≤c∧Zbz w' w'.heap.size A rs∧ZaJ w' rs∧e= .returned (.tuple #[.agg #[.slice A rs.length c],.agg #[.int .i64 0,.int .i64 0]]))∨
   ∃k:Nat,Z7 [] l 0= .inr k∧e= .returned (.tuple #[.agg #[.slice none 0 0],.agg #[.int .i64 5,.int .i64 k]]))∧Below w0.heap.size w0 w'
def NwRel (l:List Pce)(base:Nat)(W0:World)(v4 v5 i:Value)(wr:World):Prop:=∃(k:Nat) (rs:List (Rw×Sl)) (bits:List Bool),k≤l.length∧i= .int .i64 k∧Z7 [] l 0=Z7 (rs.map (·.1)) (l.drop k) k∧rs.length≤k∧
 wr.ownsRow base 322 4 v4 rs.length (rs.flatMap rV)∧wr.ownsRow base 4 1 v5 bits.length (bits.map Value.bool)∧Zcf bits (rs.map (·.1))∧bits.length≤1048576∧ZaJ wr rs∧Below base W0 wr
def IwRel (base:Nat)(W0:World)(r:Rw)(q:Sl)(rs:List (Rw×Sl))(v4:Value)(g5 c5:Nat)(bits:List Bool)(B8:Nat)(i:Value)(wr:World):Prop:=∃c:Nat,r.1≤c∧c≤r.1+r.2.1∧i= .int .i64 c∧(∀j,r.1≤j→j<c→bits[j]? =some false)∧
 wr.ownsRow base 4 1 (.slice (some ⟨g5,0,none⟩) bits.length c5) bits.length ((Za2 bits r.1 c).map Value.bool)∧wr.ownsRow base 322 4 v4 rs.length (rs.flatMap rV)∧ZaJ wr rs∧ZA wr wr.heap.size (r,q)∧
 wr.heap[B8]? =some (.cells #[.int .i64 (r.1:Int),.int .i64 (r.2.1:Int),.int .i32 r.2.2.1,.slice q.1 q.2.1 q.2.2] 322 (0,0))∧Below base W0 wr
theorem Zkh {w:World} {base:Nat} {e:TypeId} {s n:Nat} {v:Value} {xs:List Value} (h:w.ownsRow base e s v n xs)(hn:0<n):∃g c,v= .slice (some ⟨g,0,none⟩) n c:=by
 rcases h.2 with⟨_,h⟩|⟨g,cap,cur,h,_⟩
 · omega
 · exact⟨g,cap,h⟩
theorem ZeP {w:World} {base:Nat} {e e':TypeId} {s n:Nat} {v:Value} {xs:List Value} (h:w.ownsRow base e s v n xs){K:Nat} {cs:Array Value} {fr:Nat×Nat} (hk:w.heap[K]? =some (.cells cs e' fr))(hne:e≠e'):some K≠v.ownBlock:=by
 rcases h.2 with⟨rfl,_⟩|⟨g,cap,cur,rfl,hb,hg,rest⟩
 · simp [Value.ownBlock]
 · simp only [Value.ownBlock,ne_eq,Option.some.injEq];rintro rfl;rw [hg] at hk;injection hk with hk
   injection hk with _ h2 _
   exact hne h2
theorem Zk3 {w:World} {g j:Nat} (u:Value):w.grownBy (w.setCell ⟨g,j,none⟩ u) (some g):=
 ⟨rfl,rfl,rfl,by simp,fun k _ hne=>Go.Deep.blk_setCell_other w _ u k (fun e=>hne (by rw [e]))⟩
def W2 (w:World):World:=(w.alloc (.cells #[.slice none 0 0] 205)).alloc (.cells #[.int .i64 0,.int .i64 0] 45)
theorem ZcK {w W:World} (h:Below (w.heap.size+2) (W2 w) W):
 (W.cell? ⟨w.heap.size,0,none⟩=some (.slice none 0 0)∧W.cell? ⟨w.heap.size+1,0,none⟩=some (.int .i64 0)∧W.cell? ⟨w.heap.size+1,1,none⟩=some (.int .i64 0))∧(W.frozen? ⟨w.heap.size,0,none⟩=false∧W.frozen? ⟨w.heap.size+1,0,none⟩=false∧W.frozen? ⟨w.heap.size+1,1,none⟩=false)∧w.heap.size+1<W.heap.size:=by
 have hs:=h.size;unfold W2 at h hs;simp only [World.size_alloc] at hs;have h2:Below ((w.alloc (.cells #[.slice none 0 0] 205)).alloc (.cells #[.int .i64 0,.int .i64 0] 45)).heap.size ((w.alloc (.cells #[.slice none 0 0] 205)).alloc (.cells #[.int .i64 0,.int .i64 0] 45)) W:=by simpa using h
 obtain⟨a1,a2,_⟩:=bx h2;obtain⟨b1,b2,_⟩:=bx (Zh h2);simp only [World.size_alloc] at a1 a2;exact⟨⟨b1 0,a1 0,a1 1⟩,⟨b2 0,a2 0,a2 1⟩,by omega⟩
theorem Zo2 {w W:World} (h:Below (w.heap.size+2) (W2 w) W):W.heap[w.heap.size]? =some (.cells #[.slice none 0 0] 205 (0,0))∧W.heap[w.heap.size+1]? =some (.cells #[.int .i64 0,.int .i64 0] 45 (0,0)):=by
 rw [h.block _ (by omega),h.block _ (by omega)];unfold W2;constructor
 · rw [Below.heap_alloc _ _ _ (by simp)];exact heap_alloc_new w _
 · have:=heap_alloc_new (w.alloc (.cells #[.slice none 0 0] 205)) (.cells #[.int .i64 0,.int .i64 0] 45);simp only [World.size_alloc] at this;exact this
theorem Zqf {w:World} {g1 g2 k:Nat} (a b c:Value)(h1:k≠g1)(h2:k≠g2):(((w.setCell ⟨g1,0,none⟩ a).setCell ⟨g2,0,none⟩ b).setCell ⟨g2,1,none⟩ c).heap[k]? =w.heap[k]?:=by
 rw [heap_set h2,heap_set h2,heap_set h1]
theorem ZaJ.set3 {w:World} {rs:List (Rw×Sl)} {g1 g2:Nat} (h:ZaJ w rs)(a b c:Value){T1 T2:TypeId} {c1 c2:Array Value} (h1:w.heap[g1]? =some (.cells c1 T1 (0,0)))(h2:w.heap[g2]? =some (.cells c2 T2 (0,0)))(n1:T1≠21)(n2:T2≠21):
 ZaJ (((w.setCell ⟨g1,0,none⟩ a).setCell ⟨g2,0,none⟩ b).setCell ⟨g2,1,none⟩ c) rs:=fun x hx=>by
 have e:(((w.setCell ⟨g1,0,none⟩ a).setCell ⟨g2,0,none⟩ b).setCell ⟨g2,1,none⟩ c).heap.size=w.heap.size:=by simp
 refine⟨(h x hx).1,?_⟩;rw [e];refine(h x hx).2.keep fun k hk ⟨cs,fr,hh⟩=>Zqf a b c ?_ ?_
 · rintro rfl;rw [hh] at h1;injection h1 with h1;injection h1 with _ h1 _;exact n1 h1.symm
 · rintro rfl;rw [hh] at h2;injection h2 with h2;injection h2 with _ h2 _;exact n2 h2.symm
theorem Zbz.set3 {w:World} {A:Option Addr} {rs:List (Rw×Sl)} {g1 g2 base:Nat} (h:Zbz w w.heap.size A rs)(hA:∀ad,A=some ad→base≤ad.block)(h1:g1<base)(h2:g2<base)(a b c:Value):
 Zbz (((w.setCell ⟨g1,0,none⟩ a).setCell ⟨g2,0,none⟩ b).setCell ⟨g2,1,none⟩ c) (((w.setCell ⟨g1,0,none⟩ a).setCell ⟨g2,0,none⟩ b).setCell ⟨g2,1,none⟩ c).heap.size A rs:=by
 have e:(((w.setCell ⟨g1,0,none⟩ a).setCell ⟨g2,0,none⟩ b).setCell ⟨g2,1,none⟩ c).heap.size=w.heap.size:=by simp
 rw [e];refine⟨⟨h.1.1,fun h0=> ?_⟩,h.2⟩;obtain⟨ad,hA2,hb,hc⟩:=h.1.2 h0;have hba:=hA ad hA2;refine⟨ad,hA2,hb,fun j u hu=> ?_⟩;have hbk:(ad.add j).block=ad.block:=by unfold Addr.add;split<;>rfl
 rw [Zba (by omega),Zba (by omega),Zba (by omega)];exact hc j u hu
theorem ZeM (w:World)(a b c d:Value)(T:TypeId):∀j u,[a,b,c,d][j]? =some u→(w.alloc (.cells #[a,b,c,d] T)).cell? ((⟨w.heap.size,0,none⟩:Addr).add j)=some u:=by
 intro j u hu;rw [addr_eq rfl];show(w.alloc _).cell? ⟨w.heap.size,0+j,none⟩=_
 rw [Nat.zero_add,cell_of_row _ w.heap.size j _ T (0,0) (heap_alloc_new w _)];simpa using hu
theorem ZdF {w W:World} (h:Below (w.heap.size+2) (W2 w) W):Below w.heap.size w W:=Zex (by unfold W2 at h;simpa using h)
theorem Zl8 (l:List Pce)(A:Option Addr)(c:Nat)(hl:l.length≤4096)(hok:∀p∈l,Zaq p∧p.2.2.2.1.size≤1000000)(w:World)(hT:Zj w)(hA:Reads w w.heap.size 4 A l.length (l.flatMap pV)):
 Calls Tryz.prog 257 #[.slice A l.length c] w (Zej l w):=by
 have HE:Hid (∀k w',Z7 [] l 0= .inr k→Below w.heap.size w w'→Zej l w (.returned (.tuple #[.agg #[.slice none 0 0],.agg #[.int .i64 5,.int .i64 (k:Nat)]])) w'):=Lib.hid fun k w' h hb=>⟨.inr ⟨k,h,rfl⟩,hb⟩
 have HO:Hid (∀A c rs w',NwOk l rs→rs.length≤c→Zbz w' w'.heap.size A rs→ZaJ w' rs→Below w.heap.size w w'→Zej l w (.returned (.tuple #[.agg #[.slice A rs.length c],.agg #[.int .i64 0,.int .i64 0]])) w'):=Lib.hid fun A c rs w' h1 h2 h3 h4 hb=>⟨.inl ⟨A,c,rs,h1,h2,h3,h4,rfl⟩,hb⟩
 generalize Zej l w=P at*;obtain⟨i0,hi,iz0,iz1,iz2⟩:=info_parts Zg6;obtain⟨j0,hj,jz0,jz1,jz2⟩:=info_parts Znl;have Hok:=Lib.hid hok;clear hok;go_enter Tryz.func257,Tryz.ntmps257
 go_wp2_with fail
 go_loopw [4,5,14] (fun v4 v5 i wr=>NwRel l (w.heap.size+2) (W2 w) v4 v5 i wr) (fun _ _ i _=>l.length - (intOf i).toNat)
 case atStart=>exact⟨0,[],[],by omega,rfl,rfl,by simp,World.ownsRow_nil _ _ _ _,World.ownsRow_nil _ _ _ _,Zqe,by simp,by intro x hx;simp at hx,Below.refl _ _⟩
 case round=>
  obtain⟨k,rs,bits,hk,rfl,hnf,hrk,hown4,hown5,hseen,hbl,hrs,hb⟩:=hrel;obtain⟨_,_,hz⟩:=ZcK hb;by_cases hlt:k<l.length
  · obtain⟨p,hp⟩:∃p,l[k]? =some p:=⟨_,List.getElem?_eq_getElem hlt⟩
    obtain⟨ad,rfl,hadb,hadc⟩:=hA.2 (by omega);obtain⟨hpk,hps⟩:=Hok.out p (List.mem_of_getElem? hp);have hce:∀i u,(pV p)[i]? =some u→i<4→wr.cell? (ad.add (k*4+i))=some u:=fun i u hu hi4=>by
     have h1:=hadc (k*4+i) u ((ZeK pV Zkt l k i p hp hi4).trans hu);have hbk:(ad.add (k*4+i)).block=ad.block:=by unfold Addr.add;split<;>rfl
     rw [hb.cell (by rw [hbk];omega),W2,World.cell?_alloc_lt _ _ _ (by rw [hbk];simp;omega),World.cell?_alloc_lt _ _ _ (by rw [hbk];exact hadb)];exact h1
    have had:∀i,i≠0→ad.add (k*4+i)=⟨(ad.add (k*4)).block,(ad.add (k*4)).off+i,none⟩:=fun i hi=>by
     rw [←ZfR];show(if i=0 then _ else _)=_
     rw [if_neg hi]
    have q0:=hce 0 _ rfl (by omega);have q1:=hce 1 _ rfl (by omega);have q2:=hce 2 _ rfl (by omega);have q3:=hce 3 _ rfl (by omega);rw [Nat.add_zero] at q0;rw [had 1 (by omega)] at q1;rw [had 2 (by omega)] at q2;rw [had 3 (by omega)] at q3;clear hce had;have Hnf:=Lib.hid hnf;clear hnf;have hpr:=fun w' hT=>Zmf p hpk hps w' hT;unfold pV at hpr;have hB0:=ZdF hb;have hT1:∀o,Zj (wr.alloc o):=fun o=>ZG (ZU hT hB0 (Nat.le_refl _)) o;have hdk:l.drop k=p::l.drop (k+1):=by
     obtain⟨h1,h2⟩:=List.getElem?_eq_some_iff.1 hp;rw [List.drop_eq_getElem_cons h1,h2]
    have hstep:Z7 [] l 0=Z7 (rs.map (·.1)) (p::l.drop (k+1)) k:=by rw [←hdk];exact Hnf.out
    simp only [Z7] at hstep;clear hdk;cases hr:rowOf p with
    |none=>
     rw [hr] at hstep;have Hst:=Lib.hid hstep;have hpr0:∀w',Zj w'→Calls Tryz.prog 309 #[.agg #[.int .i64 p.1,.int .i32 p.2.1,.int .i64 p.2.2.1,.string p.2.2.2.1]] w' fun e w''=>e= .returned (.tuple #[.agg #[.int .i64 0,.int .i64 0,.int .i32 0,.slice none 0 0],.bool false])∧Below w'.heap.size w' w'':=fun w' hT=>(hpr w' hT).mono fun e w'' h=>by
      obtain⟨h1|⟨r,v,h1,_⟩,h2⟩:=h
      · exact⟨h1.2,h2⟩
      · rw [hr] at h1;cases h1
     clear hpr hstep hr Hnf hown4 hown5 hseen hrs;go_wp2_with (go_at_call 309;refine(hpr0 _ (hT1 _)).mono ?_;rintro e w1 ⟨rfl,hb1⟩;have HB1:=(hb.alloc (by omega) _).trans (hb1.mono (by simp;omega));have hz1:=hb1.size;obtain⟨⟨c0,c1,c2⟩,⟨f0,f1,f2⟩,g0⟩:=ZcK HB1;have g1:w.heap.size<w1.heap.size:=(by omega))
     refine bodyPost_ret (v:= .tuple #[.agg #[.slice none 0 0],.agg #[.int .i64 5,.int .i64 (k:Nat)]]) (by simp [results,Tryz.results257,go_sem,World.cell?_alloc_lt,g0,g1,c0,c1,c2]) rfl ?_;exact HE.out k _ Hst.out (((((ZdF HB1).setCell (Nat.le_refl _) _).setCell (by simp) _).setCell (by simp) _).alloc (by simp;omega) _)
    |some r=>
     rw [hr] at hstep;simp only at hstep;have hok:=ZkR hpk hr;have hpr1:∀w',Zj w'→Calls Tryz.prog 309 #[.agg #[.int .i64 p.1,.int .i32 p.2.1,.int .i64 p.2.2.1,.string p.2.2.2.1]] w' fun e w''=>∃q:Sl,e= .returned (.tuple #[.agg #[.int .i64 (r.1:Int),.int .i64 (r.2.1:Int),.int .i32 r.2.2.1,.slice q.1 q.2.1 q.2.2],.bool true])∧ZA w'' w''.heap.size (r,q)∧Below w'.heap.size w' w'':=fun w' hT=>(hpr w' hT).mono fun e w'' h=>by
      obtain⟨h1|⟨r',v,h1,h3,h4⟩,h2⟩:=h
      · rw [hr] at h1;cases h1.1
      · rw [hr] at h1;injection h1 with h1;subst h1
        exact⟨v,h3,h4,h2⟩
     clear hpr hr Hnf;obtain⟨ok1,ok2,ok3⟩:=id hok;obtain⟨A5,c5,hv5,hc5,_⟩:=Reads.of_own hown5;have hend:=fun v W=>ZbO r.1 r.2.1 r.2.2.1 v ok2 W;have e1:IntKind.i64.wrap ((r.1:Int)+r.2.1 - bits.length)=(r.1:Int)+r.2.1 - bits.length:=IntWalk.i64_in _ (by omega);subst hv5;have Hstep:=Lib.hid hstep;have Hown4:=Lib.hid hown4;have Hown5:=Lib.hid hown5;have Hseen:=Lib.hid hseen;have Hrs:=Lib.hid hrs;clear hstep hown4 hown5 hseen hrs;by_cases hgrow:bits.length<r.1+r.2.1
     · have hpos:(0:Int)<(r.1:Int)+r.2.1 - bits.length:=by omega
       have hmm:(r.1:Int)+r.2.1 - bits.length=((r.1+r.2.1 - bits.length:Nat):Int):=by omega
       rw [hmm] at e1 hpos;go_wp2_with (first|(go_at_call 309;refine(hpr1 _ (hT1 _)).mono ?_;rintro e w1 ⟨q,rfl,hsg,hb1⟩;have HB1:=(hb.alloc (by omega) _).trans (hb1.mono (by simp;omega));have hz1:=Zb8 hb1;have HRS1:=Lib.hid (Hrs.out.below (Zh hb1));have HO41:=Lib.hid (Zo (Hown4.out.alloc _) hb1);have HO51:=Lib.hid (Zo (Hown5.out.alloc _) hb1);have Hsg:=Lib.hid hsg;clear hsg)|(go_at_call 263;refine(hend _ _).mono ?_;rintro e w2 ⟨rfl,hb2⟩;have HB2:=(HB1.alloc (by omega) _).trans (hb2.mono (by simp;omega));have hz2:=Zb8 hb2;have HRS2:=Lib.hid (HRS1.out.below (Zh hb2));have HO42:=Lib.hid (Zo (HO41.out.alloc _) hb2);have HO52:=Lib.hid (Zo (HO51.out.alloc _) hb2);have HSG2:=Lib.hid ((Hsg.out.below (Zh hb2)).more (Nat.le_of_succ_le hz2));have H8:=Lib.hid (Zq (heap_alloc_new w1 (.cells #[.int .i64 (r.1:Int),.int .i64 (r.2.1:Int),.int .i32 r.2.2.1,.slice q.1 q.2.1 q.2.2] 322)) hb2);obtain⟨⟨x0,x1,x2,x3⟩,_⟩:=bx4 hb2)|(at_builtin;obtain⟨v5',w3,hrun,hown5',hgr5⟩:=ZpR (P:=Tryz.prog) w2 (w.heap.size+2) 348 3 348 4 j0 _ (.bool false) Tryz.underlying348 Tryz.underlying3 hj jz0 jz1 jz2 rfl rfl _ _ _ HO52.out (r.1+r.2.1 - bits.length) (by omega) (by omega) (by omega);refine Lib.wpList_append_run _ rfl _ _ _ _ rfl _ _ rfl rfl _ _ hrun ?_;clear hrun;have HO43:=Lib.hid (HO42.out.kept hgr5 (ZgN HO42.out HO52.out (by decide)));have HRS3:=Lib.hid (HRS2.out.grown HO52.out (by decide) hgr5);have HSG3:=Lib.hid ((Zbt HSG2.out HO52.out (by decide) hgr5 (Nat.le_refl _)).more hgr5.size);have H83:=Lib.hid ((hgr5.block _ (by omega) (ZeP HO52.out H8.out (by decide))).trans H8.out);have HB3:=Z3 HB2 HO52.out hgr5 (by omega) (Nat.le_refl _);have hz3:=hgr5.size;obtain⟨bits2,hbits2⟩:∃b:List Bool,b=bits++List.replicate (r.1+r.2.1 - bits.length) false:=⟨_,rfl⟩;have hl2:bits2.length=r.1+r.2.1:=(by rw [hbits2];simp;omega);have hown6:w3.ownsRow (w.heap.size+2) 4 1 v5' bits2.length (bits2.map Value.bool):=(by rw [hl2,hbits2,List.map_append,List.map_replicate];rw [show bits.length+(r.1+r.2.1 - bits.length)=r.1+r.2.1 by omega] at hown5';exact hown5');obtain⟨g5,c5,rfl⟩:=Zkh hown6 (by omega);have HO53:=Lib.hid hown6;have HSEEN:=Lib.hid (show Zcf bits2 (rs.map (·.1)) by rw [hbits2];exact Zqd Hseen.out _);have x0':=cell_of_row _ _ 0 _ _ _ H83.out;simp at x0';have HL2:=Lib.hid (show r.1+r.2.1≤bits2.length by omega);have HL3:=Lib.hid (show bits2.length≤1048576 by omega);clear hown5' hown6 hgr5 hbits2 hl2))
       clear x0 x1 x2 x3;go_loopw [11] (fun i wr2=>IwRel (w.heap.size+2) (W2 w) r q rs u4 g5 c5 bits2 w1.heap.size i wr2) (fun i _=>r.1+r.2.1 - (intOf i).toNat)
       case atStart=>exact⟨r.1,Nat.le_refl _,by omega,rfl,(fun j h1 h2=>by omega),by rw [Zk1];exact HO53.out,HO43.out,HRS3.out,HSG3.out,H83.out,HB3⟩
       case round=>
        obtain⟨cc,hc1,hc2,rfl,hfalse,ho5,ho4,hrs2,hsg2,h82,hbb⟩:=hrel;have y0:=cell_of_row _ _ 0 _ _ _ h82;have y1:=cell_of_row _ _ 1 _ _ _ h82;have y2:=cell_of_row _ _ 2 _ _ _ h82;have y3:=cell_of_row _ _ 3 _ _ _ h82;simp at y0 y1 y2 y3;have Hfalse:=Lib.hid hfalse;have Ho5:=Lib.hid ho5;have Ho4:=Lib.hid ho4;have Hrs2:=Lib.hid hrs2;have Hsg2:=Lib.hid hsg2;have H82:=Lib.hid h82;have Hb:=Lib.hid hbb;have hg5:=(ho5.lt g5 rfl).2;obtain⟨_,_,hzb⟩:=ZcK hbb;by_cases hcl:cc<r.1+r.2.1
        · have hcb:cc<bits2.length:=by have:=HL2.out;omega
          have hs5:=ho5.cellAt cc (by omega);rw [List.getElem?_map,Zhd _ _ _ _ hcb,decide_eq_false (Nat.lt_irrefl cc),Bool.and_false,Bool.or_false] at hs5;simp only [Option.map_some] at hs5;have hfz:=ho5.frozenAt cc;cases hbit:bits2[cc] with
          |true=>
           have hov:ovl (rs.map (·.1)) r=true:=ZkX HSEEN.out ⟨hc1,hcl⟩ (by rw [List.getElem?_eq_getElem hcb,hbit]);have Hst:=Lib.hid (show Z7 [] l 0= .inr k by rw [Hstep.out,if_pos hov]);rw [hbit] at hs5;clear hfalse ho5 ho4 hrs2 hsg2 h82 hov;go_wp2_with (go_at_call 263;refine(hend _ _).mono ?_;rintro e w4 ⟨rfl,hb4⟩;have hz4:=hb4.size;have HB4:=(Hb.out).trans (hb4.mono (by omega));have HO44:=Lib.hid (Zo Ho4.out hb4);have HO54:=Lib.hid (Zo Ho5.out hb4);have HRS4:=Lib.hid (Hrs2.out.below hb4);have HSG4:=Lib.hid ((Hsg2.out.below hb4).more hz4);have H84:=Lib.hid (Zq H82.out hb4);have z0:=(cell_of_row _ _ 0 _ _ _ H84.out);have z1:=(cell_of_row _ _ 1 _ _ _ H84.out);have z2:=(cell_of_row _ _ 2 _ _ _ H84.out);have z3:=(cell_of_row _ _ 3 _ _ _ H84.out);simp at z0 z1 z2 z3;have s5:=(hb4.cell (p:=⟨g5,cc,none⟩) hg5).trans hs5;obtain⟨⟨c0,c1,c2⟩,⟨f0,f1,f2⟩,g0⟩:=ZcK HB4;have g1:w.heap.size<w4.heap.size:=(by omega))
           refine bodyPost_ret (v:= .tuple #[.agg #[.slice none 0 0],.agg #[.int .i64 5,.int .i64 (k:Nat)]]) (by simp [results,Tryz.results257,go_sem,World.cell?_alloc_lt,g0,g1,c0,c1,c2]) rfl ?_;exact HE.out k _ Hst.out ((((ZdF HB4).setCell (Nat.le_refl _) _).setCell (by simp) _).setCell (by simp) _)
          |false=>
           rw [hbit] at hs5;have hbn:bits2[cc]? =some false:=by rw [List.getElem?_eq_getElem hcb,hbit]
           clear hfalse ho5 ho4 hrs2 hsg2 h82;go_wp2_with (go_at_call 263;refine(hend _ _).mono ?_;rintro e w4 ⟨rfl,hb4⟩;have hz4:=hb4.size;have HB4:=(Hb.out).trans (hb4.mono (by omega));have HO44:=Lib.hid (Zo Ho4.out hb4);have HO54:=Lib.hid (Zo Ho5.out hb4);have HRS4:=Lib.hid (Hrs2.out.below hb4);have HSG4:=Lib.hid ((Hsg2.out.below hb4).more hz4);have H84:=Lib.hid (Zq H82.out hb4);have z0:=(cell_of_row _ _ 0 _ _ _ H84.out);have z1:=(cell_of_row _ _ 1 _ _ _ H84.out);have z2:=(cell_of_row _ _ 2 _ _ _ H84.out);have z3:=(cell_of_row _ _ 3 _ _ _ H84.out);simp at z0 z1 z2 z3;have s5:=(hb4.cell (p:=⟨g5,cc,none⟩) hg5).trans hs5;have s6:=(hb4.frozen (p:=⟨g5,cc,none⟩) hg5).trans hfz;clear hs5 hfz)
           have hst5:=HO54.out.stored cc (.bool true);have hsg5:=Zk3 (w:=w4) (g:=g5) (j:=cc) (.bool true);have hlt8:=(Array.getElem?_eq_some_iff.1 H84.out).1;refine⟨⟨cc+1,by omega,by omega,by simp,fun j h1 h2=> ?_,?_,HO44.out.kept hsg5 (.inr (ZgM HO44.out HO54.out (by decide))),HRS4.out.grown HO54.out (by decide) hsg5,(Zbt HSG4.out HO54.out (by decide) hsg5 (Nat.le_refl _)).more hsg5.size,(hsg5.block _ hlt8 (ZeP HO54.out H84.out (by decide))).trans H84.out,HB4.setCell (p:=⟨g5,cc,none⟩) (HO54.out.lt g5 rfl).1 _⟩,by simp [intOf];omega⟩
           · by_cases hj:j<cc
             · exact Hfalse.out j h1 hj
             · obtain rfl:j=cc:=by omega
               exact hbn
           · rw [Zk0 _ _ _ hc1,List.map_set];exact hst5.1
        · obtain rfl:cc=r.1+r.2.1:=by omega
          obtain⟨hov,hseen2⟩:=ZkY HSEEN.out (fun x hx=>by obtain⟨y,hy,rfl⟩:=List.mem_map.1 hx;exact(Hrs2.out y hy).1.1) ok1 HL2.out (fun c h1 h2=>Hfalse.out c h1 h2);have Hst:=Lib.hid (show Z7 [] l 0=Z7 ((rs++[(r,q)]).map (·.1)) (l.drop (k+1)) (k+1) by rw [Hstep.out,hov];simp);have Hseen2:=Lib.hid hseen2;clear hfalse ho5 ho4 hrs2 hsg2 h82 hov hseen2;go_wp2_with (first|(go_at_call 263;refine(hend _ _).mono ?_;rintro e w4 ⟨rfl,hb4⟩;have hz4:=hb4.size;have HB4:=(Hb.out).trans (hb4.mono (by omega));have HO44:=Lib.hid (Zo Ho4.out hb4);have HO54:=Lib.hid (Zo Ho5.out hb4);have HRS4:=Lib.hid (Hrs2.out.below hb4);have HSG4:=Lib.hid ((Hsg2.out.below hb4).more hz4);have H84:=Lib.hid (Zq H82.out hb4);have z0:=(cell_of_row _ _ 0 _ _ _ H84.out);have z1:=(cell_of_row _ _ 1 _ _ _ H84.out);have z2:=(cell_of_row _ _ 2 _ _ _ H84.out);have z3:=(cell_of_row _ _ 3 _ _ _ H84.out);simp at z0 z1 z2 z3)|(at_builtin;refine wpList_append_own _ rfl _ _ 203 rfl (w.heap.size+2) 322 i0 _ 4 48 Tryz.underlying203 hi iz0 iz1 iz2 rfl (by decide) _ rs.length _ rfl (HO44.out.alloc _) ⟨w4.heap.size,0,none⟩ 1 1 [.int .i64 (r.1:Int),.int .i64 (r.2.1:Int),.int .i32 r.2.2.1,.slice q.1 q.2.1 q.2.2] rfl rfl ?d1 ?d2 ?d3 ?d4 ?d5 ?_))
          case d1=>exact ZeM w4 _ _ _ _ _
          case d2=>intro u hu;simp only [List.mem_cons,List.not_mem_nil,or_false] at hu;rcases hu with rfl|rfl|rfl|rfl<;>rfl
          case d3=>unfold maxLen;omega
          case d4=>omega
          case d5=>simp;omega
          intro v4' w5 hown6 hg6 h06;have HO55:=Lib.hid ((HO54.out.alloc (.cells #[.int .i64 (r.1:Int),.int .i64 (r.2.1:Int),.int .i32 r.2.2.1,.slice q.1 q.2.1 q.2.2] 322)).kept hg6 (ZgN HO54.out HO44.out (by decide)));have HRS5:=Lib.hid ((HRS4.out.below ((Below.refl _ _).alloc (Nat.le_refl _) _)).grown (HO44.out.alloc (.cells #[.int .i64 (r.1:Int),.int .i64 (r.2.1:Int),.int .i32 r.2.2.1,.slice q.1 q.2.1 q.2.2] 322)) (by decide) hg6);have HSG5:=Lib.hid ((Zbt ((HSG4.out.below ((Below.refl _ _).alloc (Nat.le_refl _) _)).more (by simp)) (HO44.out.alloc (.cells #[.int .i64 (r.1:Int),.int .i64 (r.2.1:Int),.int .i32 r.2.2.1,.slice q.1 q.2.1 q.2.2] 322)) (by decide) hg6 (Nat.le_refl _)).more hg6.size);have HB5:=Z3 (HB4.alloc (by omega) (.cells #[.int .i64 (r.1:Int),.int .i64 (r.2.1:Int),.int .i32 r.2.2.1,.slice q.1 q.2.1 q.2.2] 322)) (HO44.out.alloc _) hg6 (by simp;omega) (Nat.le_refl _);have Hown6:=Lib.hid hown6;clear hown6 hg6 h06;go_wp2_with fail
          refine⟨⟨k+1,rs++[(r,q)],Za2 bits2 r.1 (r.1+r.2.1),by omega,by simp,Hst.out,by simp;omega,?_,?_,?_,by rw [Zdo];exact HL3.out,?_,HB5⟩,by simp [intOf];omega⟩
          · have:=Hown6.out;simpa [rV,slV] using this
          · rw [Zdo];exact HO55.out
          · have:=Hseen2.out;simpa using this
          · intro x hx;rcases List.mem_append.1 hx with h|h
            · exact HRS5.out x h
            · simp only [List.mem_singleton] at h;subst h;exact⟨hok,HSG5.out⟩
     · have hpos:¬(0:Int)<(r.1:Int)+r.2.1 - bits.length:=by omega
       obtain⟨g5,c5',hv5⟩:=Zkh Hown5.out (by omega);injection hv5 with hA5 _ hc5'
       subst hA5;subst hc5';have HSEEN:=Hseen;have HL2:=Lib.hid (show r.1+r.2.1≤bits.length by omega);have HL3:=Lib.hid hbl;go_wp2_with (first|(go_at_call 309;refine(hpr1 _ (hT1 _)).mono ?_;rintro e w1 ⟨q,rfl,hsg,hb1⟩;have HB1:=(hb.alloc (by omega) _).trans (hb1.mono (by simp;omega));have hz1:=Zb8 hb1;have HRS1:=Lib.hid (Hrs.out.below (Zh hb1));have HO41:=Lib.hid (Zo (Hown4.out.alloc _) hb1);have HO51:=Lib.hid (Zo (Hown5.out.alloc _) hb1);have Hsg:=Lib.hid hsg;clear hsg)|(go_at_call 263;refine(hend _ _).mono ?_;rintro e w2 ⟨rfl,hb2⟩;have HB2:=(HB1.alloc (by omega) _).trans (hb2.mono (by simp;omega));have hz2:=Zb8 hb2;have HRS2:=Lib.hid (HRS1.out.below (Zh hb2));have HO42:=Lib.hid (Zo (HO41.out.alloc _) hb2);have HO52:=Lib.hid (Zo (HO51.out.alloc _) hb2);have HSG2:=Lib.hid ((Hsg.out.below (Zh hb2)).more (Nat.le_of_succ_le hz2));have H8:=Lib.hid (Zq (heap_alloc_new w1 (.cells #[.int .i64 (r.1:Int),.int .i64 (r.2.1:Int),.int .i32 r.2.2.1,.slice q.1 q.2.1 q.2.2] 322)) hb2);obtain⟨⟨x0,x1,x2,x3⟩,_⟩:=bx4 hb2))
       clear x0 x1 x2 x3;go_loopw [11] (fun i wr2=>IwRel (w.heap.size+2) (W2 w) r q rs u4 g5 c5 bits w1.heap.size i wr2) (fun i _=>r.1+r.2.1 - (intOf i).toNat)
       case atStart=>exact⟨r.1,Nat.le_refl _,by omega,rfl,(fun j h1 h2=>by omega),by rw [Zk1];exact HO52.out,HO42.out,HRS2.out,HSG2.out,H8.out,HB2⟩
       case round=>
        obtain⟨cc,hc1,hc2,rfl,hfalse,ho5,ho4,hrs2,hsg2,h82,hbb⟩:=hrel;have y0:=cell_of_row _ _ 0 _ _ _ h82;have y1:=cell_of_row _ _ 1 _ _ _ h82;have y2:=cell_of_row _ _ 2 _ _ _ h82;have y3:=cell_of_row _ _ 3 _ _ _ h82;simp at y0 y1 y2 y3;have Hfalse:=Lib.hid hfalse;have Ho5:=Lib.hid ho5;have Ho4:=Lib.hid ho4;have Hrs2:=Lib.hid hrs2;have Hsg2:=Lib.hid hsg2;have H82:=Lib.hid h82;have Hb:=Lib.hid hbb;have hg5:=(ho5.lt g5 rfl).2;obtain⟨_,_,hzb⟩:=ZcK hbb;by_cases hcl:cc<r.1+r.2.1
        · have hcb:cc<bits.length:=by have:=HL2.out;omega
          have hs5:=ho5.cellAt cc (by omega);rw [List.getElem?_map,Zhd _ _ _ _ hcb,decide_eq_false (Nat.lt_irrefl cc),Bool.and_false,Bool.or_false] at hs5;simp only [Option.map_some] at hs5;have hfz:=ho5.frozenAt cc;cases hbit:bits[cc] with
          |true=>
           have hov:ovl (rs.map (·.1)) r=true:=ZkX HSEEN.out ⟨hc1,hcl⟩ (by rw [List.getElem?_eq_getElem hcb,hbit]);have Hst:=Lib.hid (show Z7 [] l 0= .inr k by rw [Hstep.out,if_pos hov]);rw [hbit] at hs5;clear hfalse ho5 ho4 hrs2 hsg2 h82 hov;go_wp2_with (go_at_call 263;refine(hend _ _).mono ?_;rintro e w4 ⟨rfl,hb4⟩;have hz4:=hb4.size;have HB4:=(Hb.out).trans (hb4.mono (by omega));have HO44:=Lib.hid (Zo Ho4.out hb4);have HO54:=Lib.hid (Zo Ho5.out hb4);have HRS4:=Lib.hid (Hrs2.out.below hb4);have HSG4:=Lib.hid ((Hsg2.out.below hb4).more hz4);have H84:=Lib.hid (Zq H82.out hb4);have z0:=(cell_of_row _ _ 0 _ _ _ H84.out);have z1:=(cell_of_row _ _ 1 _ _ _ H84.out);have z2:=(cell_of_row _ _ 2 _ _ _ H84.out);have z3:=(cell_of_row _ _ 3 _ _ _ H84.out);simp at z0 z1 z2 z3;have s5:=(hb4.cell (p:=⟨g5,cc,none⟩) hg5).trans hs5;obtain⟨⟨c0,c1,c2⟩,⟨f0,f1,f2⟩,g0⟩:=ZcK HB4;have g1:w.heap.size<w4.heap.size:=(by omega))
           refine bodyPost_ret (v:= .tuple #[.agg #[.slice none 0 0],.agg #[.int .i64 5,.int .i64 (k:Nat)]]) (by simp [results,Tryz.results257,go_sem,World.cell?_alloc_lt,g0,g1,c0,c1,c2]) rfl ?_;exact HE.out k _ Hst.out ((((ZdF HB4).setCell (Nat.le_refl _) _).setCell (by simp) _).setCell (by simp) _)
          |false=>
           rw [hbit] at hs5;have hbn:bits[cc]? =some false:=by rw [List.getElem?_eq_getElem hcb,hbit]
           clear hfalse ho5 ho4 hrs2 hsg2 h82;go_wp2_with (go_at_call 263;refine(hend _ _).mono ?_;rintro e w4 ⟨rfl,hb4⟩;have hz4:=hb4.size;have HB4:=(Hb.out).trans (hb4.mono (by omega));have HO44:=Lib.hid (Zo Ho4.out hb4);have HO54:=Lib.hid (Zo Ho5.out hb4);have HRS4:=Lib.hid (Hrs2.out.below hb4);have HSG4:=Lib.hid ((Hsg2.out.below hb4).more hz4);have H84:=Lib.hid (Zq H82.out hb4);have z0:=(cell_of_row _ _ 0 _ _ _ H84.out);have z1:=(cell_of_row _ _ 1 _ _ _ H84.out);have z2:=(cell_of_row _ _ 2 _ _ _ H84.out);have z3:=(cell_of_row _ _ 3 _ _ _ H84.out);simp at z0 z1 z2 z3;have s5:=(hb4.cell (p:=⟨g5,cc,none⟩) hg5).trans hs5;have s6:=(hb4.frozen (p:=⟨g5,cc,none⟩) hg5).trans hfz;clear hs5 hfz)
           have hst5:=HO54.out.stored cc (.bool true);have hsg5:=Zk3 (w:=w4) (g:=g5) (j:=cc) (.bool true);have hlt8:=(Array.getElem?_eq_some_iff.1 H84.out).1;refine⟨⟨cc+1,by omega,by omega,by simp,fun j h1 h2=> ?_,?_,HO44.out.kept hsg5 (.inr (ZgM HO44.out HO54.out (by decide))),HRS4.out.grown HO54.out (by decide) hsg5,(Zbt HSG4.out HO54.out (by decide) hsg5 (Nat.le_refl _)).more hsg5.size,(hsg5.block _ hlt8 (ZeP HO54.out H84.out (by decide))).trans H84.out,HB4.setCell (p:=⟨g5,cc,none⟩) (HO54.out.lt g5 rfl).1 _⟩,by simp [intOf];omega⟩
           · by_cases hj:j<cc
             · exact Hfalse.out j h1 hj
             · obtain rfl:j=cc:=by omega
               exact hbn
           · rw [Zk0 _ _ _ hc1,List.map_set];exact hst5.1
        · obtain rfl:cc=r.1+r.2.1:=by omega
          obtain⟨hov,hseen2⟩:=ZkY HSEEN.out (fun x hx=>by obtain⟨y,hy,rfl⟩:=List.mem_map.1 hx;exact(Hrs2.out y hy).1.1) ok1 HL2.out (fun c h1 h2=>Hfalse.out c h1 h2);have Hst:=Lib.hid (show Z7 [] l 0=Z7 ((rs++[(r,q)]).map (·.1)) (l.drop (k+1)) (k+1) by rw [Hstep.out,hov];simp);have Hseen2:=Lib.hid hseen2;clear hfalse ho5 ho4 hrs2 hsg2 h82 hov hseen2;go_wp2_with (first|(go_at_call 263;refine(hend _ _).mono ?_;rintro e w4 ⟨rfl,hb4⟩;have hz4:=hb4.size;have HB4:=(Hb.out).trans (hb4.mono (by omega));have HO44:=Lib.hid (Zo Ho4.out hb4);have HO54:=Lib.hid (Zo Ho5.out hb4);have HRS4:=Lib.hid (Hrs2.out.below hb4);have HSG4:=Lib.hid ((Hsg2.out.below hb4).more hz4);have H84:=Lib.hid (Zq H82.out hb4);have z0:=(cell_of_row _ _ 0 _ _ _ H84.out);have z1:=(cell_of_row _ _ 1 _ _ _ H84.out);have z2:=(cell_of_row _ _ 2 _ _ _ H84.out);have z3:=(cell_of_row _ _ 3 _ _ _ H84.out);simp at z0 z1 z2 z3)|(at_builtin;refine wpList_append_own _ rfl _ _ 203 rfl (w.heap.size+2) 322 i0 _ 4 48 Tryz.underlying203 hi iz0 iz1 iz2 rfl (by decide) _ rs.length _ rfl (HO44.out.alloc _) ⟨w4.heap.size,0,none⟩ 1 1 [.int .i64 (r.1:Int),.int .i64 (r.2.1:Int),.int .i32 r.2.2.1,.slice q.1 q.2.1 q.2.2] rfl rfl ?d1 ?d2 ?d3 ?d4 ?d5 ?_))
          case d1=>exact ZeM w4 _ _ _ _ _
          case d2=>intro u hu;simp only [List.mem_cons,List.not_mem_nil,or_false] at hu;rcases hu with rfl|rfl|rfl|rfl<;>rfl
          case d3=>unfold maxLen;omega
          case d4=>omega
          case d5=>simp;omega
          intro v4' w5 hown6 hg6 h06;have HO55:=Lib.hid ((HO54.out.alloc (.cells #[.int .i64 (r.1:Int),.int .i64 (r.2.1:Int),.int .i32 r.2.2.1,.slice q.1 q.2.1 q.2.2] 322)).kept hg6 (ZgN HO54.out HO44.out (by decide)));have HRS5:=Lib.hid ((HRS4.out.below ((Below.refl _ _).alloc (Nat.le_refl _) _)).grown (HO44.out.alloc (.cells #[.int .i64 (r.1:Int),.int .i64 (r.2.1:Int),.int .i32 r.2.2.1,.slice q.1 q.2.1 q.2.2] 322)) (by decide) hg6);have HSG5:=Lib.hid ((Zbt ((HSG4.out.below ((Below.refl _ _).alloc (Nat.le_refl _) _)).more (by simp)) (HO44.out.alloc (.cells #[.int .i64 (r.1:Int),.int .i64 (r.2.1:Int),.int .i32 r.2.2.1,.slice q.1 q.2.1 q.2.2] 322)) (by decide) hg6 (Nat.le_refl _)).more hg6.size);have HB5:=Z3 (HB4.alloc (by omega) (.cells #[.int .i64 (r.1:Int),.int .i64 (r.2.1:Int),.int .i32 r.2.2.1,.slice q.1 q.2.1 q.2.2] 322)) (HO44.out.alloc _) hg6 (by simp;omega) (Nat.le_refl _);have Hown6:=Lib.hid hown6;clear hown6 hg6 h06;go_wp2_with fail
          refine⟨⟨k+1,rs++[(r,q)],Za2 bits r.1 (r.1+r.2.1),by omega,by simp,Hst.out,by simp;omega,?_,?_,?_,by rw [Zdo];exact HL3.out,?_,HB5⟩,by simp [intOf];omega⟩
          · have:=Hown6.out;simpa [rV,slV] using this
          · rw [Zdo];exact HO55.out
          · have:=Hseen2.out;simpa using this
          · intro x hx;rcases List.mem_append.1 hx with h|h
            · exact HRS5.out x h
            · simp only [List.mem_singleton] at h;subst h;exact⟨hok,HSG5.out⟩
  · have hk2:k=l.length:=by omega
    subst hk2;have Hn:=Lib.hid (show Z7 [] l 0= .inl (rs.map (·.1)) by rw [hnf,List.drop_of_length_le (Nat.le_refl _)];rfl);obtain⟨A4,c4,hv4,hc4,_⟩:=Reads.of_own hown4;subst hv4;have hbf:=ZhF (w.heap.size+2) (.slice A4 rs.length c4) rs wr hown4 (by omega) (by omega);have Hlt4:=Lib.hid (show∀ad,A4=some ad→w.heap.size+2≤ad.block from fun ad h=>(hown4.lt ad.block (by rw [h];rfl)).1);have Hrs:=Lib.hid hrs;have Hown4:=Lib.hid hown4;clear hnf hown4 hown5 hseen hrs;go_wp2_with (go_at_call 310;refine hbf.mono ?_;rintro e w9 ⟨rfl,A5,c5,rs',hv5,hc5,hperm,hsort,hrd,hbb,hgr9⟩;have HB9:=hb.trans hbb;obtain⟨⟨c0,c1,c2⟩,⟨f0,f1,f2⟩,g0⟩:=ZcK HB9;injection hv5 with hA5 _ hcc5;subst hA5;subst hcc5;have Hperm:=Lib.hid hperm;have Hsort:=Lib.hid hsort;have Hrd:=Lib.hid hrd;clear hperm hsort hrd)
    obtain⟨n1,n2⟩:=Zo2 HB9;have hlen:rs'.length=rs.length:=Hperm.out.length_eq;have hrs9:ZaJ w9 rs':=fun x hx=>Hrs.out.grown Hown4.out (by decide) hgr9 x (Hperm.out.mem_iff.1 hx);have hf:=HO.out A4 c4 rs' (((w9.setCell ⟨w.heap.size,0,none⟩ (.slice A4 rs.length c4)).setCell ⟨w.heap.size+1,0,none⟩ (.int .i64 0)).setCell ⟨w.heap.size+1,1,none⟩ (.int .i64 0)) ⟨rs,Hn.out,Hperm.out,Hsort.out⟩ (by omega) (Hrd.out.set3 Hlt4.out (by omega) (by omega) _ _ _) (hrs9.set3 _ _ _ n1 n2 (by decide) (by decide)) ((((ZdF HB9).setCell (Nat.le_refl _) _).setCell (by simp) _).setCell (by simp) _);rw [hlen] at hf;refine bodyPost_ret (v:= .tuple #[.agg #[.slice A4 rs.length c4],.agg #[.int .i64 0,.int .i64 0]]) (by simp [results,Tryz.results257,go_sem,c0,c1,c2]) rfl ?_;exact hf
end Go.Proofs.YtnbkfkbcpfkddaaGreatDoor
