/- Lemmas for a statement on the tops; conditions: as each says. -/
import Derived.Test.YtlfinljfghhpdaaGreatDoorM22
set_option linter.unusedVariables false
set_option linter.unusedSimpArgs false
set_option maxRecDepth 100000
set_option maxHeartbeats 4000000
namespace Go.Proofs.YtlfinljfghhpdaaGreatDoor
open Go Go.RowKit
theorem Zif:(Tryz.prog.info? 331).map (fun i=>(i.zero,i.size,i.bytes))=some (some (.agg #[.int .i64 0,.int .i64 0,.int .i32 0,.slice none 0 0]),4,48):=by kernel_rfl
theorem ZqB:(Tryz.prog.info? 4).map (fun i=>(i.zero,i.size,i.bytes))=some (some (.bool false),1,1):=by kernel_rfl
theorem Zh3 {w:World} {b1 b2 s1 s2 n1 n2:Nat} {e1 e2:TypeId} {v1:Value} {g c:Nat} {x1 x2:List Value} (h1:w.ownsRow b1 e1 s1 v1 n1 x1)(h2:w.ownsRow b2 e2 s2 (.slice (some ⟨g,0,none⟩) n2 c) n2 x2)(hne:e1≠e2):v1.ownBlock≠some g:=by
 rcases h1.2 with⟨rfl,_⟩|⟨g1,cap,cur,rfl,hb,hg,rest⟩
 · simp [Value.ownBlock]
 · rcases h2.2 with⟨h,_⟩|⟨g2,cap2,cur2,he,hb2,hg2,rest2⟩
   · cases h
   · injection he with he
     injection he with he
     injection he with he
     subst he;simp only [Value.ownBlock,ne_eq,Option.some.injEq];rintro rfl;rw [hg] at hg2;injection hg2 with hg2
     injection hg2 with _ h2 _
     exact hne h2
theorem Zh4 {w:World} {b1 b2 s1 s2 n1 n2:Nat} {e1 e2:TypeId} {v1 v2:Value} {x1 x2:List Value} (h1:w.ownsRow b1 e1 s1 v1 n1 x1)(h2:w.ownsRow b2 e2 s2 v2 n2 x2)(hne:e1≠e2):v1.ownBlock=none∨v1.ownBlock≠v2.ownBlock:=by
 rcases h2.2 with⟨rfl,_⟩|⟨g2,cap2,cur2,rfl,hb2,hg2,rest2⟩
 · cases h:v1.ownBlock with
   |none=>exact .inl rfl
   |some k=>exact .inr (by simp [Value.ownBlock])
 · exact .inr (Zh3 h1 h2 hne)
theorem Zb4 {w w':World} {B b s n:Nat} {e:TypeId} {v:Value} {xs:List Value} {x:Rw×Sl} (h:ZI w B x)(hown:w.ownsRow b e s v n xs)(hne:e≠21)(hg:w.grownBy w' v.ownBlock)(hB:B≤w.heap.size):ZI w' B x:=
 h.keep fun k hk ⟨cs,fr,hh⟩=>by
  refine hg.block k (by omega) ?_;rcases hown.2 with⟨rfl,_⟩|⟨g,cap,cur,rfl,hb,hg2,rest⟩
  · simp [Value.ownBlock]
  · simp only [Value.ownBlock,ne_eq,Option.some.injEq];rintro rfl;rw [hh] at hg2;injection hg2 with hg2
    injection hg2 with _ h2 _
    exact hne h2.symm
theorem Zs {w w1:World} {K:Nat} {o:Obj} (h:w.heap[K]? =some o)(hb:Below w.heap.size w w1):w1.heap[K]? =some o:=
 (hb.block K (Array.getElem?_eq_some_iff.1 h).1).trans h
def Zba (w:World)(rs:List (Rw×Sl)):Prop:=∀x∈rs,ZaC x.1∧ZI w w.heap.size x
theorem Zba.below {w w':World} {rs:List (Rw×Sl)} (h:Zba w rs)(hb:Below w.heap.size w w'):Zba w' rs:=fun x hx=>⟨(h x hx).1,((h x hx).2.below hb).more hb.size⟩
theorem Zba.grown {w w':World} {b s n:Nat} {e:TypeId} {v:Value} {xs:List Value} {rs:List (Rw×Sl)} (h:Zba w rs)(hown:w.ownsRow b e s v n xs)(hne:e≠21)(hg:w.grownBy w' v.ownBlock):Zba w' rs:=
 fun x hx=>⟨(h x hx).1,(Zb4 (h x hx).2 hown hne hg (Nat.le_refl _)).more hg.size⟩
def NwOk (l:List Pce)(rs:List (Rw×Sl)):Prop:=∃rs0:List (Rw×Sl),Zak [] l 0= .inl (rs0.map (·.1))∧rs.Perm rs0∧rs.Pairwise fun a b=>a.1.1≤b.1.1
def Ze9 (l:List Pce)(w0:World)(e:Ending)(w':World):Prop:=
 ((∃A c rs,NwOk l rs∧rs.length≤c∧Zb8 w' w'.heap.size A rs∧Zba w' rs∧e= .returned (.tuple #[.agg #[.slice A rs.length c],.agg #[.int .i64 0,.int .i64 0]]))∨
   ∃k:Nat,Zak [] l 0= .inr k∧e= .returned (.tuple #[.agg #[.slice none 0 0],.agg #[.int .i64 5,.int .i64 k]]))∧Below w0.heap.size w0 w'
def NwRel (l:List Pce)(base:Nat)(W0:World)(v4 v5 i:Value)(wr:World):Prop:=∃(k:Nat) (rs:List (Rw×Sl)) (bits:List Bool),k≤l.length∧i= .int .i64 k∧Zak [] l 0=Zak (rs.map (·.1)) (l.drop k) k∧rs.length≤k∧
 wr.ownsRow base 331 4 v4 rs.length (rs.flatMap rV)∧wr.ownsRow base 4 1 v5 bits.length (bits.map Value.bool)∧ZcS bits (rs.map (·.1))∧bits.length≤1048576∧Zba wr rs∧Below base W0 wr
def IwRel (base:Nat)(W0:World)(r:Rw)(q:Sl)(rs:List (Rw×Sl))(v4:Value)(g5 c5:Nat)(bits:List Bool)(B8:Nat)(i:Value)(wr:World):Prop:=∃c:Nat,r.1≤c∧c≤r.1+r.2.1∧i= .int .i64 c∧(∀j,r.1≤j→j<c→bits[j]? =some false)∧
 wr.ownsRow base 4 1 (.slice (some ⟨g5,0,none⟩) bits.length c5) bits.length ((ZbD bits r.1 c).map Value.bool)∧wr.ownsRow base 331 4 v4 rs.length (rs.flatMap rV)∧Zba wr rs∧ZI wr wr.heap.size (r,q)∧
 wr.heap[B8]? =some (.cells #[.int .i64 (r.1:Int),.int .i64 (r.2.1:Int),.int .i32 r.2.2.1,.slice q.1 q.2.1 q.2.2] 331 (0,0))∧Below base W0 wr
theorem Zmc {w:World} {base:Nat} {e:TypeId} {s n:Nat} {v:Value} {xs:List Value} (h:w.ownsRow base e s v n xs)(hn:0<n):∃g c,v= .slice (some ⟨g,0,none⟩) n c:=by
 rcases h.2 with⟨_,h⟩|⟨g,cap,cur,h,_⟩
 · omega
 · exact⟨g,cap,h⟩
theorem ZfE {w:World} {base:Nat} {e e':TypeId} {s n:Nat} {v:Value} {xs:List Value} (h:w.ownsRow base e s v n xs){K:Nat} {cs:Array Value} {fr:Nat×Nat} (hk:w.heap[K]? =some (.cells cs e' fr))(hne:e≠e'):some K≠v.ownBlock:=by
 rcases h.2 with⟨rfl,_⟩|⟨g,cap,cur,rfl,hb,hg,rest⟩
 · simp [Value.ownBlock]
 · simp only [Value.ownBlock,ne_eq,Option.some.injEq];rintro rfl;rw [hg] at hk;injection hk with hk
   injection hk with _ h2 _
   exact hne h2
theorem Zm3 {w:World} {g j:Nat} (u:Value):w.grownBy (w.setCell ⟨g,j,none⟩ u) (some g):=
 ⟨rfl,rfl,rfl,by simp,fun k _ hne=>Go.Deep.blk_setCell_other w _ u k (fun e=>hne (by rw [e]))⟩
def W2 (w:World):World:=(w.alloc (.cells #[.slice none 0 0] 211)).alloc (.cells #[.int .i64 0,.int .i64 0] 33)
theorem Zdz {w W:World} (h:Below (w.heap.size+2) (W2 w) W):
 (W.cell? ⟨w.heap.size,0,none⟩=some (.slice none 0 0)∧W.cell? ⟨w.heap.size+1,0,none⟩=some (.int .i64 0)∧W.cell? ⟨w.heap.size+1,1,none⟩=some (.int .i64 0))∧(W.frozen? ⟨w.heap.size,0,none⟩=false∧W.frozen? ⟨w.heap.size+1,0,none⟩=false∧W.frozen? ⟨w.heap.size+1,1,none⟩=false)∧w.heap.size+1<W.heap.size:=by
 have hs:=h.size;unfold W2 at h hs;simp only [World.size_alloc] at hs;have h2:Below ((w.alloc (.cells #[.slice none 0 0] 211)).alloc (.cells #[.int .i64 0,.int .i64 0] 33)).heap.size ((w.alloc (.cells #[.slice none 0 0] 211)).alloc (.cells #[.int .i64 0,.int .i64 0] 33)) W:=by simpa using h
 obtain⟨a1,a2,_⟩:=bx h2;obtain⟨b1,b2,_⟩:=bx (Zf h2);simp only [World.size_alloc] at a1 a2;exact⟨⟨b1 0,a1 0,a1 1⟩,⟨b2 0,a2 0,a2 1⟩,by omega⟩
theorem ZsD {w W:World} (h:Below (w.heap.size+2) (W2 w) W):W.heap[w.heap.size]? =some (.cells #[.slice none 0 0] 211 (0,0))∧W.heap[w.heap.size+1]? =some (.cells #[.int .i64 0,.int .i64 0] 33 (0,0)):=by
 rw [h.block _ (by omega),h.block _ (by omega)];unfold W2;constructor
 · rw [Below.heap_alloc _ _ _ (by simp)];exact heap_alloc_new w _
 · have:=heap_alloc_new (w.alloc (.cells #[.slice none 0 0] 211)) (.cells #[.int .i64 0,.int .i64 0] 33);simp only [World.size_alloc] at this;exact this
theorem ZtM {w:World} {g1 g2 k:Nat} (a b c:Value)(h1:k≠g1)(h2:k≠g2):(((w.setCell ⟨g1,0,none⟩ a).setCell ⟨g2,0,none⟩ b).setCell ⟨g2,1,none⟩ c).heap[k]? =w.heap[k]?:=by
 rw [heap_set h2,heap_set h2,heap_set h1]
theorem Zba.set3 {w:World} {rs:List (Rw×Sl)} {g1 g2:Nat} (h:Zba w rs)(a b c:Value){T1 T2:TypeId} {c1 c2:Array Value} (h1:w.heap[g1]? =some (.cells c1 T1 (0,0)))(h2:w.heap[g2]? =some (.cells c2 T2 (0,0)))(n1:T1≠21)(n2:T2≠21):
 Zba (((w.setCell ⟨g1,0,none⟩ a).setCell ⟨g2,0,none⟩ b).setCell ⟨g2,1,none⟩ c) rs:=fun x hx=>by
 have e:(((w.setCell ⟨g1,0,none⟩ a).setCell ⟨g2,0,none⟩ b).setCell ⟨g2,1,none⟩ c).heap.size=w.heap.size:=by simp
 refine⟨(h x hx).1,?_⟩;rw [e];refine(h x hx).2.keep fun k hk ⟨cs,fr,hh⟩=>ZtM a b c ?_ ?_
 · rintro rfl;rw [hh] at h1;injection h1 with h1;injection h1 with _ h1 _;exact n1 h1.symm
 · rintro rfl;rw [hh] at h2;injection h2 with h2;injection h2 with _ h2 _;exact n2 h2.symm
theorem Zb8.set3 {w:World} {A:Option Addr} {rs:List (Rw×Sl)} {g1 g2 base:Nat} (h:Zb8 w w.heap.size A rs)(hA:∀ad,A=some ad→base≤ad.block)(h1:g1<base)(h2:g2<base)(a b c:Value):
 Zb8 (((w.setCell ⟨g1,0,none⟩ a).setCell ⟨g2,0,none⟩ b).setCell ⟨g2,1,none⟩ c) (((w.setCell ⟨g1,0,none⟩ a).setCell ⟨g2,0,none⟩ b).setCell ⟨g2,1,none⟩ c).heap.size A rs:=by
 have e:(((w.setCell ⟨g1,0,none⟩ a).setCell ⟨g2,0,none⟩ b).setCell ⟨g2,1,none⟩ c).heap.size=w.heap.size:=by simp
 rw [e];refine⟨⟨h.1.1,fun h0=> ?_⟩,h.2⟩;obtain⟨ad,hA2,hb,hc⟩:=h.1.2 h0;have hba:=hA ad hA2;refine⟨ad,hA2,hb,fun j u hu=> ?_⟩;have hbk:(ad.add j).block=ad.block:=by unfold Addr.add;split<;>rfl
 rw [ZbJ (by omega),ZbJ (by omega),ZbJ (by omega)];exact hc j u hu
theorem ZfA (w:World)(a b c d:Value)(T:TypeId):∀j u,[a,b,c,d][j]? =some u→(w.alloc (.cells #[a,b,c,d] T)).cell? ((⟨w.heap.size,0,none⟩:Addr).add j)=some u:=by
 intro j u hu;rw [addr_eq rfl];show(w.alloc _).cell? ⟨w.heap.size,0+j,none⟩=_
 rw [Nat.zero_add,cell_of_row _ w.heap.size j _ T (0,0) (heap_alloc_new w _)];simpa using hu
theorem Zep {w W:World} (h:Below (w.heap.size+2) (W2 w) W):Below w.heap.size w W:=Zqv (by unfold W2 at h;simpa using h)
theorem ZoG (l:List Pce)(A:Option Addr)(c:Nat)(hl:l.length≤4096)(hok:∀p∈l,Zbt p∧p.2.2.2.1.size≤1000000)(w:World)(hT:Zj w)(hA:Reads w w.heap.size 4 A l.length (l.flatMap pV)):
 Calls Tryz.prog 297 #[.slice A l.length c] w (Ze9 l w):=by
 have HE:Hid (∀k w',Zak [] l 0= .inr k→Below w.heap.size w w'→Ze9 l w (.returned (.tuple #[.agg #[.slice none 0 0],.agg #[.int .i64 5,.int .i64 (k:Nat)]])) w'):=Lib.hid fun k w' h hb=>⟨.inr ⟨k,h,rfl⟩,hb⟩
 have HO:Hid (∀A c rs w',NwOk l rs→rs.length≤c→Zb8 w' w'.heap.size A rs→Zba w' rs→Below w.heap.size w w'→Ze9 l w (.returned (.tuple #[.agg #[.slice A rs.length c],.agg #[.int .i64 0,.int .i64 0]])) w'):=Lib.hid fun A c rs w' h1 h2 h3 h4 hb=>⟨.inl ⟨A,c,rs,h1,h2,h3,h4,rfl⟩,hb⟩
 generalize Ze9 l w=P at*;obtain⟨i0,hi,iz0,iz1,iz2⟩:=info_parts Zif;obtain⟨j0,hj,jz0,jz1,jz2⟩:=info_parts ZqB;have Hok:=Lib.hid hok;clear hok;go_enter Tryz.func297,Tryz.ntmps297
 go_wp2_with fail
 go_loopw [4,5,14] (fun v4 v5 i wr=>NwRel l (w.heap.size+2) (W2 w) v4 v5 i wr) (fun _ _ i _=>l.length - (intOf i).toNat)
 case atStart=>exact⟨0,[],[],by omega,rfl,rfl,by simp,World.ownsRow_nil _ _ _ _,World.ownsRow_nil _ _ _ _,ZtL,by simp,by intro x hx;simp at hx,Below.refl _ _⟩
 case round=>
  obtain⟨k,rs,bits,hk,rfl,hnf,hrk,hown4,hown5,hseen,hbl,hrs,hb⟩:=hrel;obtain⟨_,_,hz⟩:=Zdz hb;by_cases hlt:k<l.length
  · obtain⟨p,hp⟩:∃p,l[k]? =some p:=⟨_,List.getElem?_eq_getElem hlt⟩
    obtain⟨ad,rfl,hadb,hadc⟩:=hA.2 (by omega);obtain⟨hpk,hps⟩:=Hok.out p (List.mem_of_getElem? hp);have hce:∀i u,(pV p)[i]? =some u→i<4→wr.cell? (ad.add (k*4+i))=some u:=fun i u hu hi4=>by
     have h1:=hadc (k*4+i) u ((Zfx pV Zmo l k i p hp hi4).trans hu);have hbk:(ad.add (k*4+i)).block=ad.block:=by unfold Addr.add;split<;>rfl
     rw [hb.cell (by rw [hbk];omega),W2,World.cell?_alloc_lt _ _ _ (by rw [hbk];simp;omega),World.cell?_alloc_lt _ _ _ (by rw [hbk];exact hadb)];exact h1
    have had:∀i,i≠0→ad.add (k*4+i)=⟨(ad.add (k*4)).block,(ad.add (k*4)).off+i,none⟩:=fun i hi=>by
     rw [←ZgP];show(if i=0 then _ else _)=_
     rw [if_neg hi]
    have q0:=hce 0 _ rfl (by omega);have q1:=hce 1 _ rfl (by omega);have q2:=hce 2 _ rfl (by omega);have q3:=hce 3 _ rfl (by omega);rw [Nat.add_zero] at q0;rw [had 1 (by omega)] at q1;rw [had 2 (by omega)] at q2;rw [had 3 (by omega)] at q3;clear hce had;have Hnf:=Lib.hid hnf;clear hnf;have hpr:=fun w' hT=>ZoP p hpk hps w' hT;unfold pV at hpr;have hB0:=Zep hb;have hT1:∀o,Zj (wr.alloc o):=fun o=>ZN (Zaz hT hB0 (Nat.le_refl _)) o;have hdk:l.drop k=p::l.drop (k+1):=by
     obtain⟨h1,h2⟩:=List.getElem?_eq_some_iff.1 hp;rw [List.drop_eq_getElem_cons h1,h2]
    have hstep:Zak [] l 0=Zak (rs.map (·.1)) (p::l.drop (k+1)) k:=by rw [←hdk];exact Hnf.out
    simp only [Zak] at hstep;clear hdk;cases hr:rowOf p with
    |none=>
     rw [hr] at hstep;have Hst:=Lib.hid hstep;have hpr0:∀w',Zj w'→Calls Tryz.prog 341 #[.agg #[.int .i64 p.1,.int .i32 p.2.1,.int .i64 p.2.2.1,.string p.2.2.2.1]] w' fun e w''=>e= .returned (.tuple #[.agg #[.int .i64 0,.int .i64 0,.int .i32 0,.slice none 0 0],.bool false])∧Below w'.heap.size w' w'':=fun w' hT=>(hpr w' hT).mono fun e w'' h=>by
      obtain⟨h1|⟨r,v,h1,_⟩,h2⟩:=h
      · exact⟨h1.2,h2⟩
      · rw [hr] at h1;cases h1
     clear hpr hstep hr Hnf hown4 hown5 hseen hrs;go_wp2_with (go_at_call 341;refine(hpr0 _ (hT1 _)).mono ?_;rintro e w1 ⟨rfl,hb1⟩;have HB1:=(hb.alloc (by omega) _).trans (hb1.mono (by simp;omega));have hz1:=hb1.size;obtain⟨⟨c0,c1,c2⟩,⟨f0,f1,f2⟩,g0⟩:=Zdz HB1;have g1:w.heap.size<w1.heap.size:=(by omega))
     refine bodyPost_ret (v:= .tuple #[.agg #[.slice none 0 0],.agg #[.int .i64 5,.int .i64 (k:Nat)]]) (by simp [results,Tryz.results297,go_sem,World.cell?_alloc_lt,g0,g1,c0,c1,c2]) rfl ?_;exact HE.out k _ Hst.out (((((Zep HB1).setCell (Nat.le_refl _) _).setCell (by simp) _).setCell (by simp) _).alloc (by simp;omega) _)
    |some r=>
     rw [hr] at hstep;simp only at hstep;have hok:=ZmM hpk hr;have hpr1:∀w',Zj w'→Calls Tryz.prog 341 #[.agg #[.int .i64 p.1,.int .i32 p.2.1,.int .i64 p.2.2.1,.string p.2.2.2.1]] w' fun e w''=>∃q:Sl,e= .returned (.tuple #[.agg #[.int .i64 (r.1:Int),.int .i64 (r.2.1:Int),.int .i32 r.2.2.1,.slice q.1 q.2.1 q.2.2],.bool true])∧ZI w'' w''.heap.size (r,q)∧Below w'.heap.size w' w'':=fun w' hT=>(hpr w' hT).mono fun e w'' h=>by
      obtain⟨h1|⟨r',v,h1,h3,h4⟩,h2⟩:=h
      · rw [hr] at h1;cases h1.1
      · rw [hr] at h1;injection h1 with h1;subst h1
        exact⟨v,h3,h4,h2⟩
     clear hpr hr Hnf;obtain⟨ok1,ok2,ok3⟩:=id hok;obtain⟨A5,c5,hv5,hc5,_⟩:=Reads.of_own hown5;have hend:=fun v W=>ZcO r.1 r.2.1 r.2.2.1 v ok2 W;have e1:IntKind.i64.wrap ((r.1:Int)+r.2.1 - bits.length)=(r.1:Int)+r.2.1 - bits.length:=IntWalk.i64_in _ (by omega);subst hv5;have Hstep:=Lib.hid hstep;have Hown4:=Lib.hid hown4;have Hown5:=Lib.hid hown5;have Hseen:=Lib.hid hseen;have Hrs:=Lib.hid hrs;clear hstep hown4 hown5 hseen hrs;by_cases hgrow:bits.length<r.1+r.2.1
     · have hpos:(0:Int)<(r.1:Int)+r.2.1 - bits.length:=by omega
       have hmm:(r.1:Int)+r.2.1 - bits.length=((r.1+r.2.1 - bits.length:Nat):Int):=by omega
       rw [hmm] at e1 hpos;go_wp2_with (first|(go_at_call 341;refine(hpr1 _ (hT1 _)).mono ?_;rintro e w1 ⟨q,rfl,hsg,hb1⟩;have HB1:=(hb.alloc (by omega) _).trans (hb1.mono (by simp;omega));have hz1:=Zag hb1;have HRS1:=Lib.hid (Hrs.out.below (Zf hb1));have HO41:=Lib.hid (Zt (Hown4.out.alloc _) hb1);have HO51:=Lib.hid (Zt (Hown5.out.alloc _) hb1);have Hsg:=Lib.hid hsg;clear hsg)|(go_at_call 303;refine(hend _ _).mono ?_;rintro e w2 ⟨rfl,hb2⟩;have HB2:=(HB1.alloc (by omega) _).trans (hb2.mono (by simp;omega));have hz2:=Zag hb2;have HRS2:=Lib.hid (HRS1.out.below (Zf hb2));have HO42:=Lib.hid (Zt (HO41.out.alloc _) hb2);have HO52:=Lib.hid (Zt (HO51.out.alloc _) hb2);have HSG2:=Lib.hid ((Hsg.out.below (Zf hb2)).more (Nat.le_of_succ_le hz2));have H8:=Lib.hid (Zs (heap_alloc_new w1 (.cells #[.int .i64 (r.1:Int),.int .i64 (r.2.1:Int),.int .i32 r.2.2.1,.slice q.1 q.2.1 q.2.2] 331)) hb2);obtain⟨⟨x0,x1,x2,x3⟩,_⟩:=bx4 hb2)|(at_builtin;obtain⟨v5',w3,hrun,hown5',hgr5⟩:=Ztp (P:=Tryz.prog) w2 (w.heap.size+2) 352 3 352 4 j0 _ (.bool false) Tryz.underlying352 Tryz.underlying3 hj jz0 jz1 jz2 rfl rfl _ _ _ HO52.out (r.1+r.2.1 - bits.length) (by omega) (by omega) (by omega);refine Lib.wpList_append_run _ rfl _ _ _ _ rfl _ _ rfl rfl _ _ hrun ?_;clear hrun;have HO43:=Lib.hid (HO42.out.kept hgr5 (Zh4 HO42.out HO52.out (by decide)));have HRS3:=Lib.hid (HRS2.out.grown HO52.out (by decide) hgr5);have HSG3:=Lib.hid ((Zb4 HSG2.out HO52.out (by decide) hgr5 (Nat.le_refl _)).more hgr5.size);have H83:=Lib.hid ((hgr5.block _ (by omega) (ZfE HO52.out H8.out (by decide))).trans H8.out);have HB3:=Z3 HB2 HO52.out hgr5 (by omega) (Nat.le_refl _);have hz3:=hgr5.size;obtain⟨bits2,hbits2⟩:∃b:List Bool,b=bits++List.replicate (r.1+r.2.1 - bits.length) false:=⟨_,rfl⟩;have hl2:bits2.length=r.1+r.2.1:=(by rw [hbits2];simp;omega);have hown6:w3.ownsRow (w.heap.size+2) 4 1 v5' bits2.length (bits2.map Value.bool):=(by rw [hl2,hbits2,List.map_append,List.map_replicate];rw [show bits.length+(r.1+r.2.1 - bits.length)=r.1+r.2.1 by omega] at hown5';exact hown5');obtain⟨g5,c5,rfl⟩:=Zmc hown6 (by omega);have HO53:=Lib.hid hown6;have HSEEN:=Lib.hid (show ZcS bits2 (rs.map (·.1)) by rw [hbits2];exact ZtK Hseen.out _);have x0':=cell_of_row _ _ 0 _ _ _ H83.out;simp at x0';have HL2:=Lib.hid (show r.1+r.2.1≤bits2.length by omega);have HL3:=Lib.hid (show bits2.length≤1048576 by omega);clear hown5' hown6 hgr5 hbits2 hl2))
       clear x0 x1 x2 x3;go_loopw [11] (fun i wr2=>IwRel (w.heap.size+2) (W2 w) r q rs u4 g5 c5 bits2 w1.heap.size i wr2) (fun i _=>r.1+r.2.1 - (intOf i).toNat)
       case atStart=>exact⟨r.1,Nat.le_refl _,by omega,rfl,(fun j h1 h2=>by omega),by rw [Zm1];exact HO53.out,HO43.out,HRS3.out,HSG3.out,H83.out,HB3⟩
       case round=>
        obtain⟨cc,hc1,hc2,rfl,hfalse,ho5,ho4,hrs2,hsg2,h82,hbb⟩:=hrel;have y0:=cell_of_row _ _ 0 _ _ _ h82;have y1:=cell_of_row _ _ 1 _ _ _ h82;have y2:=cell_of_row _ _ 2 _ _ _ h82;have y3:=cell_of_row _ _ 3 _ _ _ h82;simp at y0 y1 y2 y3;have Hfalse:=Lib.hid hfalse;have Ho5:=Lib.hid ho5;have Ho4:=Lib.hid ho4;have Hrs2:=Lib.hid hrs2;have Hsg2:=Lib.hid hsg2;have H82:=Lib.hid h82;have Hb:=Lib.hid hbb;have hg5:=(ho5.lt g5 rfl).2;obtain⟨_,_,hzb⟩:=Zdz hbb;by_cases hcl:cc<r.1+r.2.1
        · have hcb:cc<bits2.length:=by have:=HL2.out;omega
          have hs5:=ho5.cellAt cc (by omega);rw [List.getElem?_map,Zim _ _ _ _ hcb,decide_eq_false (Nat.lt_irrefl cc),Bool.and_false,Bool.or_false] at hs5;simp only [Option.map_some] at hs5;have hfz:=ho5.frozenAt cc;cases hbit:bits2[cc] with
          |true=>
           have hov:ovl (rs.map (·.1)) r=true:=ZmY HSEEN.out ⟨hc1,hcl⟩ (by rw [List.getElem?_eq_getElem hcb,hbit]);have Hst:=Lib.hid (show Zak [] l 0= .inr k by rw [Hstep.out,if_pos hov]);rw [hbit] at hs5;clear hfalse ho5 ho4 hrs2 hsg2 h82 hov;go_wp2_with (go_at_call 303;refine(hend _ _).mono ?_;rintro e w4 ⟨rfl,hb4⟩;have hz4:=hb4.size;have HB4:=(Hb.out).trans (hb4.mono (by omega));have HO44:=Lib.hid (Zt Ho4.out hb4);have HO54:=Lib.hid (Zt Ho5.out hb4);have HRS4:=Lib.hid (Hrs2.out.below hb4);have HSG4:=Lib.hid ((Hsg2.out.below hb4).more hz4);have H84:=Lib.hid (Zs H82.out hb4);have z0:=(cell_of_row _ _ 0 _ _ _ H84.out);have z1:=(cell_of_row _ _ 1 _ _ _ H84.out);have z2:=(cell_of_row _ _ 2 _ _ _ H84.out);have z3:=(cell_of_row _ _ 3 _ _ _ H84.out);simp at z0 z1 z2 z3;have s5:=(hb4.cell (p:=⟨g5,cc,none⟩) hg5).trans hs5;obtain⟨⟨c0,c1,c2⟩,⟨f0,f1,f2⟩,g0⟩:=Zdz HB4;have g1:w.heap.size<w4.heap.size:=(by omega))
           refine bodyPost_ret (v:= .tuple #[.agg #[.slice none 0 0],.agg #[.int .i64 5,.int .i64 (k:Nat)]]) (by simp [results,Tryz.results297,go_sem,World.cell?_alloc_lt,g0,g1,c0,c1,c2]) rfl ?_;exact HE.out k _ Hst.out ((((Zep HB4).setCell (Nat.le_refl _) _).setCell (by simp) _).setCell (by simp) _)
          |false=>
           rw [hbit] at hs5;have hbn:bits2[cc]? =some false:=by rw [List.getElem?_eq_getElem hcb,hbit]
           clear hfalse ho5 ho4 hrs2 hsg2 h82;go_wp2_with (go_at_call 303;refine(hend _ _).mono ?_;rintro e w4 ⟨rfl,hb4⟩;have hz4:=hb4.size;have HB4:=(Hb.out).trans (hb4.mono (by omega));have HO44:=Lib.hid (Zt Ho4.out hb4);have HO54:=Lib.hid (Zt Ho5.out hb4);have HRS4:=Lib.hid (Hrs2.out.below hb4);have HSG4:=Lib.hid ((Hsg2.out.below hb4).more hz4);have H84:=Lib.hid (Zs H82.out hb4);have z0:=(cell_of_row _ _ 0 _ _ _ H84.out);have z1:=(cell_of_row _ _ 1 _ _ _ H84.out);have z2:=(cell_of_row _ _ 2 _ _ _ H84.out);have z3:=(cell_of_row _ _ 3 _ _ _ H84.out);simp at z0 z1 z2 z3;have s5:=(hb4.cell (p:=⟨g5,cc,none⟩) hg5).trans hs5;have s6:=(hb4.frozen (p:=⟨g5,cc,none⟩) hg5).trans hfz;clear hs5 hfz)
           have hst5:=HO54.out.stored cc (.bool true);have hsg5:=Zm3 (w:=w4) (g:=g5) (j:=cc) (.bool true);have hlt8:=(Array.getElem?_eq_some_iff.1 H84.out).1;refine⟨⟨cc+1,by omega,by omega,by simp,fun j h1 h2=> ?_,?_,HO44.out.kept hsg5 (.inr (Zh3 HO44.out HO54.out (by decide))),HRS4.out.grown HO54.out (by decide) hsg5,(Zb4 HSG4.out HO54.out (by decide) hsg5 (Nat.le_refl _)).more hsg5.size,(hsg5.block _ hlt8 (ZfE HO54.out H84.out (by decide))).trans H84.out,HB4.setCell (p:=⟨g5,cc,none⟩) (HO54.out.lt g5 rfl).1 _⟩,by simp [intOf];omega⟩
           · by_cases hj:j<cc
             · exact Hfalse.out j h1 hj
             · obtain rfl:j=cc:=by omega
               exact hbn
           · rw [Zm0 _ _ _ hc1,List.map_set];exact hst5.1
        · obtain rfl:cc=r.1+r.2.1:=by omega
          obtain⟨hov,hseen2⟩:=ZmZ HSEEN.out (fun x hx=>by obtain⟨y,hy,rfl⟩:=List.mem_map.1 hx;exact(Hrs2.out y hy).1.1) ok1 HL2.out (fun c h1 h2=>Hfalse.out c h1 h2);have Hst:=Lib.hid (show Zak [] l 0=Zak ((rs++[(r,q)]).map (·.1)) (l.drop (k+1)) (k+1) by rw [Hstep.out,hov];simp);have Hseen2:=Lib.hid hseen2;clear hfalse ho5 ho4 hrs2 hsg2 h82 hov hseen2;go_wp2_with (first|(go_at_call 303;refine(hend _ _).mono ?_;rintro e w4 ⟨rfl,hb4⟩;have hz4:=hb4.size;have HB4:=(Hb.out).trans (hb4.mono (by omega));have HO44:=Lib.hid (Zt Ho4.out hb4);have HO54:=Lib.hid (Zt Ho5.out hb4);have HRS4:=Lib.hid (Hrs2.out.below hb4);have HSG4:=Lib.hid ((Hsg2.out.below hb4).more hz4);have H84:=Lib.hid (Zs H82.out hb4);have z0:=(cell_of_row _ _ 0 _ _ _ H84.out);have z1:=(cell_of_row _ _ 1 _ _ _ H84.out);have z2:=(cell_of_row _ _ 2 _ _ _ H84.out);have z3:=(cell_of_row _ _ 3 _ _ _ H84.out);simp at z0 z1 z2 z3)|(at_builtin;refine wpList_append_own _ rfl _ _ 209 rfl (w.heap.size+2) 331 i0 _ 4 48 Tryz.underlying209 hi iz0 iz1 iz2 rfl (by decide) _ rs.length _ rfl (HO44.out.alloc _) ⟨w4.heap.size,0,none⟩ 1 1 [.int .i64 (r.1:Int),.int .i64 (r.2.1:Int),.int .i32 r.2.2.1,.slice q.1 q.2.1 q.2.2] rfl rfl ?d1 ?d2 ?d3 ?d4 ?d5 ?_))
          case d1=>exact ZfA w4 _ _ _ _ _
          case d2=>intro u hu;simp only [List.mem_cons,List.not_mem_nil,or_false] at hu;rcases hu with rfl|rfl|rfl|rfl<;>rfl
          case d3=>unfold maxLen;omega
          case d4=>omega
          case d5=>simp;omega
          intro v4' w5 hown6 hg6 h06;have HO55:=Lib.hid ((HO54.out.alloc (.cells #[.int .i64 (r.1:Int),.int .i64 (r.2.1:Int),.int .i32 r.2.2.1,.slice q.1 q.2.1 q.2.2] 331)).kept hg6 (Zh4 HO54.out HO44.out (by decide)));have HRS5:=Lib.hid ((HRS4.out.below ((Below.refl _ _).alloc (Nat.le_refl _) _)).grown (HO44.out.alloc (.cells #[.int .i64 (r.1:Int),.int .i64 (r.2.1:Int),.int .i32 r.2.2.1,.slice q.1 q.2.1 q.2.2] 331)) (by decide) hg6);have HSG5:=Lib.hid ((Zb4 ((HSG4.out.below ((Below.refl _ _).alloc (Nat.le_refl _) _)).more (by simp)) (HO44.out.alloc (.cells #[.int .i64 (r.1:Int),.int .i64 (r.2.1:Int),.int .i32 r.2.2.1,.slice q.1 q.2.1 q.2.2] 331)) (by decide) hg6 (Nat.le_refl _)).more hg6.size);have HB5:=Z3 (HB4.alloc (by omega) (.cells #[.int .i64 (r.1:Int),.int .i64 (r.2.1:Int),.int .i32 r.2.2.1,.slice q.1 q.2.1 q.2.2] 331)) (HO44.out.alloc _) hg6 (by simp;omega) (Nat.le_refl _);have Hown6:=Lib.hid hown6;clear hown6 hg6 h06;go_wp2_with fail
          refine⟨⟨k+1,rs++[(r,q)],ZbD bits2 r.1 (r.1+r.2.1),by omega,by simp,Hst.out,by simp;omega,?_,?_,?_,by rw [Zeb];exact HL3.out,?_,HB5⟩,by simp [intOf];omega⟩
          · have:=Hown6.out;simpa [rV,slV] using this
          · rw [Zeb];exact HO55.out
          · have:=Hseen2.out;simpa using this
          · intro x hx;rcases List.mem_append.1 hx with h|h
            · exact HRS5.out x h
            · simp only [List.mem_singleton] at h;subst h;exact⟨hok,HSG5.out⟩
     · have hpos:¬(0:Int)<(r.1:Int)+r.2.1 - bits.length:=by omega
       obtain⟨g5,c5',hv5⟩:=Zmc Hown5.out (by omega);injection hv5 with hA5 _ hc5'
       subst hA5;subst hc5';have HSEEN:=Hseen;have HL2:=Lib.hid (show r.1+r.2.1≤bits.length by omega);have HL3:=Lib.hid hbl;go_wp2_with (first|(go_at_call 341;refine(hpr1 _ (hT1 _)).mono ?_;rintro e w1 ⟨q,rfl,hsg,hb1⟩;have HB1:=(hb.alloc (by omega) _).trans (hb1.mono (by simp;omega));have hz1:=Zag hb1;have HRS1:=Lib.hid (Hrs.out.below (Zf hb1));have HO41:=Lib.hid (Zt (Hown4.out.alloc _) hb1);have HO51:=Lib.hid (Zt (Hown5.out.alloc _) hb1);have Hsg:=Lib.hid hsg;clear hsg)|(go_at_call 303;refine(hend _ _).mono ?_;rintro e w2 ⟨rfl,hb2⟩;have HB2:=(HB1.alloc (by omega) _).trans (hb2.mono (by simp;omega));have hz2:=Zag hb2;have HRS2:=Lib.hid (HRS1.out.below (Zf hb2));have HO42:=Lib.hid (Zt (HO41.out.alloc _) hb2);have HO52:=Lib.hid (Zt (HO51.out.alloc _) hb2);have HSG2:=Lib.hid ((Hsg.out.below (Zf hb2)).more (Nat.le_of_succ_le hz2));have H8:=Lib.hid (Zs (heap_alloc_new w1 (.cells #[.int .i64 (r.1:Int),.int .i64 (r.2.1:Int),.int .i32 r.2.2.1,.slice q.1 q.2.1 q.2.2] 331)) hb2);obtain⟨⟨x0,x1,x2,x3⟩,_⟩:=bx4 hb2))
       clear x0 x1 x2 x3;go_loopw [11] (fun i wr2=>IwRel (w.heap.size+2) (W2 w) r q rs u4 g5 c5 bits w1.heap.size i wr2) (fun i _=>r.1+r.2.1 - (intOf i).toNat)
       case atStart=>exact⟨r.1,Nat.le_refl _,by omega,rfl,(fun j h1 h2=>by omega),by rw [Zm1];exact HO52.out,HO42.out,HRS2.out,HSG2.out,H8.out,HB2⟩
       case round=>
        obtain⟨cc,hc1,hc2,rfl,hfalse,ho5,ho4,hrs2,hsg2,h82,hbb⟩:=hrel;have y0:=cell_of_row _ _ 0 _ _ _ h82;have y1:=cell_of_row _ _ 1 _ _ _ h82;have y2:=cell_of_row _ _ 2 _ _ _ h82;have y3:=cell_of_row _ _ 3 _ _ _ h82;simp at y0 y1 y2 y3;have Hfalse:=Lib.hid hfalse;have Ho5:=Lib.hid ho5;have Ho4:=Lib.hid ho4;have Hrs2:=Lib.hid hrs2;have Hsg2:=Lib.hid hsg2;have H82:=Lib.hid h82;have Hb:=Lib.hid hbb;have hg5:=(ho5.lt g5 rfl).2;obtain⟨_,_,hzb⟩:=Zdz hbb;by_cases hcl:cc<r.1+r.2.1
        · have hcb:cc<bits.length:=by have:=HL2.out;omega
          have hs5:=ho5.cellAt cc (by omega);rw [List.getElem?_map,Zim _ _ _ _ hcb,decide_eq_false (Nat.lt_irrefl cc),Bool.and_false,Bool.or_false] at hs5;simp only [Option.map_some] at hs5;have hfz:=ho5.frozenAt cc;cases hbit:bits[cc] with
          |true=>
           have hov:ovl (rs.map (·.1)) r=true:=ZmY HSEEN.out ⟨hc1,hcl⟩ (by rw [List.getElem?_eq_getElem hcb,hbit]);have Hst:=Lib.hid (show Zak [] l 0= .inr k by rw [Hstep.out,if_pos hov]);rw [hbit] at hs5;clear hfalse ho5 ho4 hrs2 hsg2 h82 hov;go_wp2_with (go_at_call 303;refine(hend _ _).mono ?_;rintro e w4 ⟨rfl,hb4⟩;have hz4:=hb4.size;have HB4:=(Hb.out).trans (hb4.mono (by omega));have HO44:=Lib.hid (Zt Ho4.out hb4);have HO54:=Lib.hid (Zt Ho5.out hb4);have HRS4:=Lib.hid (Hrs2.out.below hb4);have HSG4:=Lib.hid ((Hsg2.out.below hb4).more hz4);have H84:=Lib.hid (Zs H82.out hb4);have z0:=(cell_of_row _ _ 0 _ _ _ H84.out);have z1:=(cell_of_row _ _ 1 _ _ _ H84.out);have z2:=(cell_of_row _ _ 2 _ _ _ H84.out);have z3:=(cell_of_row _ _ 3 _ _ _ H84.out);simp at z0 z1 z2 z3;have s5:=(hb4.cell (p:=⟨g5,cc,none⟩) hg5).trans hs5;obtain⟨⟨c0,c1,c2⟩,⟨f0,f1,f2⟩,g0⟩:=Zdz HB4;have g1:w.heap.size<w4.heap.size:=(by omega))
           refine bodyPost_ret (v:= .tuple #[.agg #[.slice none 0 0],.agg #[.int .i64 5,.int .i64 (k:Nat)]]) (by simp [results,Tryz.results297,go_sem,World.cell?_alloc_lt,g0,g1,c0,c1,c2]) rfl ?_;exact HE.out k _ Hst.out ((((Zep HB4).setCell (Nat.le_refl _) _).setCell (by simp) _).setCell (by simp) _)
          |false=>
           rw [hbit] at hs5;have hbn:bits[cc]? =some false:=by rw [List.getElem?_eq_getElem hcb,hbit]
           clear hfalse ho5 ho4 hrs2 hsg2 h82;go_wp2_with (go_at_call 303;refine(hend _ _).mono ?_;rintro e w4 ⟨rfl,hb4⟩;have hz4:=hb4.size;have HB4:=(Hb.out).trans (hb4.mono (by omega));have HO44:=Lib.hid (Zt Ho4.out hb4);have HO54:=Lib.hid (Zt Ho5.out hb4);have HRS4:=Lib.hid (Hrs2.out.below hb4);have HSG4:=Lib.hid ((Hsg2.out.below hb4).more hz4);have H84:=Lib.hid (Zs H82.out hb4);have z0:=(cell_of_row _ _ 0 _ _ _ H84.out);have z1:=(cell_of_row _ _ 1 _ _ _ H84.out);have z2:=(cell_of_row _ _ 2 _ _ _ H84.out);have z3:=(cell_of_row _ _ 3 _ _ _ H84.out);simp at z0 z1 z2 z3;have s5:=(hb4.cell (p:=⟨g5,cc,none⟩) hg5).trans hs5;have s6:=(hb4.frozen (p:=⟨g5,cc,none⟩) hg5).trans hfz;clear hs5 hfz)
           have hst5:=HO54.out.stored cc (.bool true);have hsg5:=Zm3 (w:=w4) (g:=g5) (j:=cc) (.bool true);have hlt8:=(Array.getElem?_eq_some_iff.1 H84.out).1;refine⟨⟨cc+1,by omega,by omega,by simp,fun j h1 h2=> ?_,?_,HO44.out.kept hsg5 (.inr (Zh3 HO44.out HO54.out (by decide))),HRS4.out.grown HO54.out (by decide) hsg5,(Zb4 HSG4.out HO54.out (by decide) hsg5 (Nat.le_refl _)).more hsg5.size,(hsg5.block _ hlt8 (ZfE HO54.out H84.out (by decide))).trans H84.out,HB4.setCell (p:=⟨g5,cc,none⟩) (HO54.out.lt g5 rfl).1 _⟩,by simp [intOf];omega⟩
           · by_cases hj:j<cc
             · exact Hfalse.out j h1 hj
             · obtain rfl:j=cc:=by omega
               exact hbn
           · rw [Zm0 _ _ _ hc1,List.map_set];exact hst5.1
        · obtain rfl:cc=r.1+r.2.1:=by omega
          obtain⟨hov,hseen2⟩:=ZmZ HSEEN.out (fun x hx=>by obtain⟨y,hy,rfl⟩:=List.mem_map.1 hx;exact(Hrs2.out y hy).1.1) ok1 HL2.out (fun c h1 h2=>Hfalse.out c h1 h2);have Hst:=Lib.hid (show Zak [] l 0=Zak ((rs++[(r,q)]).map (·.1)) (l.drop (k+1)) (k+1) by rw [Hstep.out,hov];simp);have Hseen2:=Lib.hid hseen2;clear hfalse ho5 ho4 hrs2 hsg2 h82 hov hseen2;go_wp2_with (first|(go_at_call 303;refine(hend _ _).mono ?_;rintro e w4 ⟨rfl,hb4⟩;have hz4:=hb4.size;have HB4:=(Hb.out).trans (hb4.mono (by omega));have HO44:=Lib.hid (Zt Ho4.out hb4);have HO54:=Lib.hid (Zt Ho5.out hb4);have HRS4:=Lib.hid (Hrs2.out.below hb4);have HSG4:=Lib.hid ((Hsg2.out.below hb4).more hz4);have H84:=Lib.hid (Zs H82.out hb4);have z0:=(cell_of_row _ _ 0 _ _ _ H84.out);have z1:=(cell_of_row _ _ 1 _ _ _ H84.out);have z2:=(cell_of_row _ _ 2 _ _ _ H84.out);have z3:=(cell_of_row _ _ 3 _ _ _ H84.out);simp at z0 z1 z2 z3)|(at_builtin;refine wpList_append_own _ rfl _ _ 209 rfl (w.heap.size+2) 331 i0 _ 4 48 Tryz.underlying209 hi iz0 iz1 iz2 rfl (by decide) _ rs.length _ rfl (HO44.out.alloc _) ⟨w4.heap.size,0,none⟩ 1 1 [.int .i64 (r.1:Int),.int .i64 (r.2.1:Int),.int .i32 r.2.2.1,.slice q.1 q.2.1 q.2.2] rfl rfl ?d1 ?d2 ?d3 ?d4 ?d5 ?_))
          case d1=>exact ZfA w4 _ _ _ _ _
          case d2=>intro u hu;simp only [List.mem_cons,List.not_mem_nil,or_false] at hu;rcases hu with rfl|rfl|rfl|rfl<;>rfl
          case d3=>unfold maxLen;omega
          case d4=>omega
          case d5=>simp;omega
          intro v4' w5 hown6 hg6 h06;have HO55:=Lib.hid ((HO54.out.alloc (.cells #[.int .i64 (r.1:Int),.int .i64 (r.2.1:Int),.int .i32 r.2.2.1,.slice q.1 q.2.1 q.2.2] 331)).kept hg6 (Zh4 HO54.out HO44.out (by decide)));have HRS5:=Lib.hid ((HRS4.out.below ((Below.refl _ _).alloc (Nat.le_refl _) _)).grown (HO44.out.alloc (.cells #[.int .i64 (r.1:Int),.int .i64 (r.2.1:Int),.int .i32 r.2.2.1,.slice q.1 q.2.1 q.2.2] 331)) (by decide) hg6);have HSG5:=Lib.hid ((Zb4 ((HSG4.out.below ((Below.refl _ _).alloc (Nat.le_refl _) _)).more (by simp)) (HO44.out.alloc (.cells #[.int .i64 (r.1:Int),.int .i64 (r.2.1:Int),.int .i32 r.2.2.1,.slice q.1 q.2.1 q.2.2] 331)) (by decide) hg6 (Nat.le_refl _)).more hg6.size);have HB5:=Z3 (HB4.alloc (by omega) (.cells #[.int .i64 (r.1:Int),.int .i64 (r.2.1:Int),.int .i32 r.2.2.1,.slice q.1 q.2.1 q.2.2] 331)) (HO44.out.alloc _) hg6 (by simp;omega) (Nat.le_refl _);have Hown6:=Lib.hid hown6;clear hown6 hg6 h06;go_wp2_with fail
          refine⟨⟨k+1,rs++[(r,q)],ZbD bits r.1 (r.1+r.2.1),by omega,by simp,Hst.out,by simp;omega,?_,?_,?_,by rw [Zeb];exact HL3.out,?_,HB5⟩,by simp [intOf];omega⟩
          · have:=Hown6.out;simpa [rV,slV] using this
          · rw [Zeb];exact HO55.out
          · have:=Hseen2.out;simpa using this
          · intro x hx;rcases List.mem_append.1 hx with h|h
            · exact HRS5.out x h
            · simp only [List.mem_singleton] at h;subst h;exact⟨hok,HSG5.out⟩
  · have hk2:k=l.length:=by omega
    subst hk2;have Hn:=Lib.hid (show Zak [] l 0= .inl (rs.map (·.1)) by rw [hnf,List.drop_of_length_le (Nat.le_refl _)];rfl);obtain⟨A4,c4,hv4,hc4,_⟩:=Reads.of_own hown4;subst hv4;have hbf:=Zi6 (w.heap.size+2) (.slice A4 rs.length c4) rs wr hown4 (by omega) (by omega);have Hlt4:=Lib.hid (show∀ad,A4=some ad→w.heap.size+2≤ad.block from fun ad h=>(hown4.lt ad.block (by rw [h];rfl)).1);have Hrs:=Lib.hid hrs;have Hown4:=Lib.hid hown4;clear hnf hown4 hown5 hseen hrs;go_wp2_with (go_at_call 342;refine hbf.mono ?_;rintro e w9 ⟨rfl,A5,c5,rs',hv5,hc5,hperm,hsort,hrd,hbb,hgr9⟩;have HB9:=hb.trans hbb;obtain⟨⟨c0,c1,c2⟩,⟨f0,f1,f2⟩,g0⟩:=Zdz HB9;injection hv5 with hA5 _ hcc5;subst hA5;subst hcc5;have Hperm:=Lib.hid hperm;have Hsort:=Lib.hid hsort;have Hrd:=Lib.hid hrd;clear hperm hsort hrd)
    obtain⟨n1,n2⟩:=ZsD HB9;have hlen:rs'.length=rs.length:=Hperm.out.length_eq;have hrs9:Zba w9 rs':=fun x hx=>Hrs.out.grown Hown4.out (by decide) hgr9 x (Hperm.out.mem_iff.1 hx);have hf:=HO.out A4 c4 rs' (((w9.setCell ⟨w.heap.size,0,none⟩ (.slice A4 rs.length c4)).setCell ⟨w.heap.size+1,0,none⟩ (.int .i64 0)).setCell ⟨w.heap.size+1,1,none⟩ (.int .i64 0)) ⟨rs,Hn.out,Hperm.out,Hsort.out⟩ (by omega) (Hrd.out.set3 Hlt4.out (by omega) (by omega) _ _ _) (hrs9.set3 _ _ _ n1 n2 (by decide) (by decide)) ((((Zep HB9).setCell (Nat.le_refl _) _).setCell (by simp) _).setCell (by simp) _);rw [hlen] at hf;refine bodyPost_ret (v:= .tuple #[.agg #[.slice A4 rs.length c4],.agg #[.int .i64 0,.int .i64 0]]) (by simp [results,Tryz.results297,go_sem,c0,c1,c2]) rfl ?_;exact hf
end Go.Proofs.YtlfinljfghhpdaaGreatDoor
